/- The reference's Text. -/
import Derived.Test.YtlinjanflenljaaGreatDoorRTx0
import Derived.Test.YtlinjanflenljaaGreatDoorRMChk
import Derived.Test.YtlinjanflenljaaGreatDoorTextM
import Derived.Deep.RegionHeld3
namespace Go.Proofs.YtlinjanflenljaaGreatDoor
open Go.RowKit
set_option linter.unusedSimpArgs false
set_option linter.unusedVariables false
set_option linter.unusedSectionVars false
set_option maxRecDepth 10000
attribute [-go_sem] run_string_add_if
theorem tEnts_app : ∀ (a b : List Ent), tEnts (a ++ b) = tEnts a ++ tEnts b
  | [], b => rfl
  | x :: a, b => by simp [tEnts, tEnts_app a b]
theorem tEnts_snoc {l : List Ent} {k : Nat} {x : Ent} (h : l[k]? = some x) : tEnts (l.take (k + 1)) = tEnts (l.take k) ++ 32 :: tEnt x := by
  rw [List.take_add_one, h, tEnts_app]; simp [tEnts]
theorem tEnts_len : ∀ {l : List Ent}, (∀ e ∈ l, txtE e) → (tEnts l).length ≤ 100 * l.length
  | [], _ => by simp [tEnts]
  | e :: l, h => by
    have a := tEnt_len (h e (by simp))
    have b := tEnts_len (l := l) fun x hx => h x (by simp [hx])
    simp only [tEnts, List.length_append, List.length_cons]; omega
set_option maxHeartbeats 64000000 in
theorem rtxt_ok (kk : Nat) (m : Mg) (hkk : m.k = (kk : Int)) (A : Option Addr) (c : Nat) (w : World) (hL : Ldr w) (hE : ES w A m.l.length m.l) (h0 : encE m = 0) (harg : argOK m = true) (hf : FitM m) :
    Calls Tryz.prog 23 #[.agg #[.int .i64 (kk : Int), .int .i64 m.fr, .int .i64 m.tt, .int .i64 m.ro, .int .i64 m.no, .int .i64 m.sl, .int .i64 m.nu, .string (sOf m.v), .slice A m.l.length c]] w fun e w' => e = .returned (.tuple #[.string (sOf (txtM m)), .int .i64 0]) ∧ Below w.heap.size w w' := by
  have hd := hf.hd
  simp only [headOK, decide_eq_true_eq] at hd
  obtain ⟨d1, d2, d3, d4, d5, d6, d7⟩ := hd
  obtain ⟨f4, f5⟩ := hf.s; obtain ⟨f6, f7⟩ := hf.n; have f8 := hf.v; have f9 := hf.ln
  have hvb : uB m.k = true → vld m.ro m.no 7 = true := fun hu => by have hg := good_all harg (j := 0) (by omega); unfold fGood at hg; rw [if_pos (show fUse 0 m.k = true from hu)] at hg; simp only [fOk, goodB_vld, Bool.and_eq_true] at hg; exact hg.1
  have hte : ∀ e ∈ m.l, txtE e := fun e he => by
    have hu : uL m.k = true := by
      rcases Bool.eq_false_or_eq_true (uL m.k) with q | q
      · exact q
      · have := (argOK_parts harg).2.2.2.2.2; unfold fL at this; rw [q] at this; have := of_decide_eq_true this; rw [this] at he; cases he
    have hg := good_all harg (j := 4) (by omega)
    unfold fGood at hg
    rw [if_pos (show fUse 4 m.k = true from hu)] at hg
    obtain ⟨q, hq⟩ := okL_mem hg e he
    have hfe := hf.l e he
    simp only [okEnt, goodB_vld, Bool.and_eq_true, decide_eq_true_eq] at hq
    exact ⟨by omega, hq.2.1, hfe.2.2.2⟩
  have hnl : uL m.k = false → m.l = [] := fun e => by have := (argOK_parts harg).2.2.2.2.2; unfold fL at this; rw [e] at this; exact of_decide_eq_true this
  have hrd := fun (x : Int) (q0 : 0 ≤ x) (q1 : x ≤ 9223372036854775807) W => rdig_any x.toNat x W rfl q0 q1
  have lf := dec_len20 m.fr.toNat (by omega)
  have lt := dec_len20 m.tt.toNat (by omega)
  have ls := dec_len20 m.sl.toNat (by omega)
  have ln := dec_len20 m.nu.toNat (by omega)
  have lv := some_len m.v f8
  have lw : (wordM m.k).length ≤ 10 := by
    have hk : m.k = 1 ∨ m.k = 2 ∨ m.k = 3 ∨ m.k = 4 ∨ m.k = 5 ∨ m.k = 6 ∨ m.k = 7 ∨ m.k = 8 ∨ m.k = 9 ∨ m.k = 10 ∨ m.k = 11 := by omega
    rcases hk with e | e | e | e | e | e | e | e | e | e | e <;> rw [e] <;> decide
  obtain ⟨SF, hSF⟩ : ∃ S : ByteArray, S = sOf (Lib.decDigits m.fr.toNat) := ⟨_, rfl⟩
  obtain ⟨S1, hS1⟩ : ∃ S : ByteArray, S = sOf (Lib.decDigits m.fr.toNat ++ [62]) := ⟨_, rfl⟩
  obtain ⟨ST, hST⟩ : ∃ S : ByteArray, S = sOf (Lib.decDigits m.tt.toNat) := ⟨_, rfl⟩
  obtain ⟨S2, hS2⟩ : ∃ S : ByteArray, S = sOf (Lib.decDigits m.fr.toNat ++ [62] ++ Lib.decDigits m.tt.toNat) := ⟨_, rfl⟩
  obtain ⟨S3, hS3⟩ : ∃ S : ByteArray, S = sOf (Lib.decDigits m.fr.toNat ++ [62] ++ Lib.decDigits m.tt.toNat ++ [32]) := ⟨_, rfl⟩
  obtain ⟨SW, hSW⟩ : ∃ S : ByteArray, S = sOf (wordM m.k) := ⟨_, rfl⟩
  obtain ⟨P0, hP0⟩ : ∃ S : ByteArray, S = sOf (tHead m) := ⟨_, rfl⟩
  obtain ⟨P1, hP1⟩ : ∃ S : ByteArray, S = sOf (tHead m ++ tB m) := ⟨_, rfl⟩
  obtain ⟨P2, hP2⟩ : ∃ S : ByteArray, S = sOf (tHead m ++ tB m ++ tS m) := ⟨_, rfl⟩
  obtain ⟨P3, hP3⟩ : ∃ S : ByteArray, S = sOf (tHead m ++ tB m ++ tS m ++ tN m) := ⟨_, rfl⟩
  obtain ⟨P4, hP4⟩ : ∃ S : ByteArray, S = sOf (tHead m ++ tB m ++ tS m ++ tN m ++ tV m) := ⟨_, rfl⟩
  have lB : (tB m).length ≤ 20 := by
    unfold tB; split
    · have := (txt_len (hvb (by assumption))).1; simp; omega
    · simp
  have lS : (tS m).length ≤ 30 := by unfold tS; split <;> simp <;> omega
  have lN : (tN m).length ≤ 30 := by unfold tN; split <;> simp <;> omega
  have lV : (tV m).length ≤ 40 := by unfold tV; split <;> simp <;> omega
  have lH : (tHead m).length ≤ 60 := by unfold tHead; simp; omega
  have a1 := add_run (T := ⟨#[62]⟩) hSF rfl hS1 (by simp; omega)
  have a2 := add_run hS1 hST hS2 (by simp; omega)
  have a3 := add_run (T := ⟨#[32]⟩) hS2 rfl hS3 (by simp; omega)
  have a4 := add_run hS3 hSW (hP0.trans (by simp [tHead])) (by simp; omega)
  obtain ⟨Q0, hQ0⟩ : ∃ S : ByteArray, S = sOf (tHead m ++ [32]) := ⟨_, rfl⟩
  obtain ⟨R0, hR0⟩ : ∃ S : ByteArray, S = sOf (txt m.ro m.no) := ⟨_, rfl⟩
  have b0 := add_run (T := ⟨#[32]⟩) hP0 rfl hQ0 (by simp only [List.length_append, List.length_singleton]; omega)
  have g0 : uB m.k = true → ∀ W, (Op.stringOp .add Q0 R0).run Tryz.prog W = .ok (.string P1) W := fun hu => add_run hQ0 hR0 (hP1.trans (by unfold tB; rw [if_pos hu]; simp)) (by have := (txt_len (hvb hu)).1; simp only [List.length_append, List.length_singleton]; omega)
  have z0 : uB m.k = false → P1 = P0 := fun hu => by rw [hP1, hP0]; unfold tB; rw [hu]; simp
  obtain ⟨Q1, hQ1⟩ : ∃ S : ByteArray, S = sOf (tHead m ++ tB m ++ [32]) := ⟨_, rfl⟩
  obtain ⟨R1, hR1⟩ : ∃ S : ByteArray, S = sOf (Lib.decDigits m.sl.toNat) := ⟨_, rfl⟩
  have b1 := add_run (T := ⟨#[32]⟩) hP1 rfl hQ1 (by simp only [List.length_append, List.length_singleton]; omega)
  have g1 : uS m.k = true → ∀ W, (Op.stringOp .add Q1 R1).run Tryz.prog W = .ok (.string P2) W := fun hu => add_run hQ1 hR1 (hP2.trans (by unfold tS; rw [if_pos hu]; simp)) (by simp only [List.length_append, List.length_singleton]; omega)
  have z1 : uS m.k = false → P2 = P1 := fun hu => by rw [hP2, hP1]; unfold tS; rw [hu]; simp
  obtain ⟨Q2, hQ2⟩ : ∃ S : ByteArray, S = sOf (tHead m ++ tB m ++ tS m ++ [32]) := ⟨_, rfl⟩
  obtain ⟨R2, hR2⟩ : ∃ S : ByteArray, S = sOf (Lib.decDigits m.nu.toNat) := ⟨_, rfl⟩
  have b2 := add_run (T := ⟨#[32]⟩) hP2 rfl hQ2 (by simp only [List.length_append, List.length_singleton]; omega)
  have g2 : uN m.k = true → ∀ W, (Op.stringOp .add Q2 R2).run Tryz.prog W = .ok (.string P3) W := fun hu => add_run hQ2 hR2 (hP3.trans (by unfold tN; rw [if_pos hu]; simp)) (by simp only [List.length_append, List.length_singleton]; omega)
  have z2 : uN m.k = false → P3 = P2 := fun hu => by rw [hP3, hP2]; unfold tN; rw [hu]; simp
  obtain ⟨Q3, hQ3⟩ : ∃ S : ByteArray, S = sOf (tHead m ++ tB m ++ tS m ++ tN m ++ [32]) := ⟨_, rfl⟩
  obtain ⟨R3, hR3⟩ : ∃ S : ByteArray, S = sOf (someV m.v) := ⟨_, rfl⟩
  have b3 := add_run (T := ⟨#[32]⟩) hP3 rfl hQ3 (by simp only [List.length_append, List.length_singleton]; omega)
  have g3 : uV m.k = true → ∀ W, (Op.stringOp .add Q3 R3).run Tryz.prog W = .ok (.string P4) W := fun hu => add_run hQ3 hR3 (hP4.trans (by unfold tV; rw [if_pos hu]; simp)) (by simp only [List.length_append, List.length_singleton]; omega)
  have z3 : uV m.k = false → P4 = P3 := fun hu => by rw [hP4, hP3]; unfold tV; rw [hu]; simp
  have lP4 : (tHead m ++ tB m ++ tS m ++ tN m ++ tV m).length ≤ 200 := by simp only [List.length_append]; omega
  have hfin : txtM m = tHead m ++ tB m ++ tS m ++ tN m ++ tV m ++ tEnts m.l := by
    unfold txtM; rw [if_pos h0]; unfold textM tL
    split
    · rfl
    · rename_i hu
      rw [hnl (eq_false_of_ne_true hu)]
      simp [tEnts]
  have us : ∀ W : World, Calls Tryz.prog 37 #[.int .i64 (kk : Int)] W fun e w' => e = .returned (.tuple #[.bool (uB m.k), .bool (uS m.k), .bool (uN m.k), .bool (uV m.k), .bool (uL m.k)]) ∧ W = w' := by
    intro W
    have := uses_any m.k ⟨d1, d2⟩ W
    rw [hkk] at this ⊢
    exact this
  obtain ⟨U, hU⟩ : ∃ U, U = w.alloc (.cells #[.int .i64 (kk : Int), .int .i64 m.fr, .int .i64 m.tt, .int .i64 m.ro, .int .i64 m.no, .int .i64 m.sl, .int .i64 m.nu, .string (sOf m.v), .slice A m.l.length c] 28) := ⟨_, rfl⟩
  have kb : Below w.heap.size w U := by rw [hU]; exact (Below.refl _ w).alloc (Nat.le_refl _) _
  have hB : U.heap[w.heap.size]? = some (.cells #[.int .i64 (kk : Int), .int .i64 m.fr, .int .i64 m.tt, .int .i64 m.ro, .int .i64 m.no, .int .i64 m.sl, .int .i64 m.nu, .string (sOf m.v), .slice A m.l.length c] 28 (0, 0)) := by rw [hU]; exact hpNew w _
  have hck : ∀ V : World, ES V A m.l.length m.l → Calls Tryz.prog 24 #[.agg #[.int .i64 (kk : Int), .int .i64 m.fr, .int .i64 m.tt, .int .i64 m.ro, .int .i64 m.no, .int .i64 m.sl, .int .i64 m.nu, .string (sOf m.v), .slice A m.l.length c]] V fun e w' => e = .returned (.int .i64 0) ∧ Below V.heap.size V w' := by
    intro V hV
    have := rchk_any m A c V hV (by omega)
    rw [hkk, h0] at this
    exact this
  have hrow : ∀ W : World, (W.alloc (.cells #[.string ⟨#[]⟩, .string ⟨#[112, 114, 101, 112, 97, 114, 101]⟩, .string ⟨#[112, 114, 111, 109, 105, 115, 101]⟩, .string ⟨#[114, 101, 106, 101, 99, 116]⟩, .string ⟨#[97, 99, 99, 101, 112, 116]⟩, .string ⟨#[97, 99, 99, 101, 112, 116, 101, 100]⟩, .string ⟨#[99, 104, 111, 115, 101, 110]⟩, .string ⟨#[98, 101, 97, 116]⟩, .string ⟨#[102, 101, 116, 99, 104]⟩, .string ⟨#[115, 110, 97, 112]⟩, .string ⟨#[97, 115, 107]⟩, .string ⟨#[97, 110, 115, 119, 101, 114]⟩] 9)).cell? ⟨W.heap.size, kk, none⟩ = some (.string SW) := by
    intro W
    rw [hSW]
    have hk : kk = 1 ∨ kk = 2 ∨ kk = 3 ∨ kk = 4 ∨ kk = 5 ∨ kk = 6 ∨ kk = 7 ∨ kk = 8 ∨ kk = 9 ∨ kk = 10 ∨ kk = 11 := by omega
    rw [hkk]
    rcases hk with rfl | rfl | rfl | rfl | rfl | rfl | rfl | rfl | rfl | rfl | rfl <;> exact blkC (hpNew W _) _
  have k0 : (0 : Int) ≤ (kk : Int) := by omega
  have k1 : (kk : Int) < 12 := by omega
  have hSTx := hST; have hSFx := hSF
  have u1 := fun W => hrd m.fr (by omega) (by omega) W
  have u2 := fun W => hrd m.tt (by omega) (by omega) W
  have u3 := fun W => hrd m.sl (by omega) (by omega) W
  have u4 := fun W => hrd m.nu (by omega) (by omega) W
  have u5 := fun W => rsome_any m.v (by omega) W
  rw [← hSF] at u1; rw [← hST] at u2; rw [← hR1] at u3; rw [← hR2] at u4; rw [← hR3] at u5
  have u6 := fun hu W hW => rname_any m.ro m.no (hvb hu) W hW
  rw [← hR0] at u6
  obtain ⟨FIN, hFIN⟩ : ∃ S : ByteArray, S = sOf (txtM m) := ⟨_, rfl⟩
  rw [← hFIN]
  skip
  replace hfin := Lib.hid hfin
  replace hFIN := Lib.hid hFIN
  replace hkk := Lib.hid hkk
  replace hSTx := Lib.hid hSTx
  replace hSFx := Lib.hid hSFx
  replace hSF := Lib.hid hSF
  replace hS1 := Lib.hid hS1
  replace hST := Lib.hid hST
  replace hS2 := Lib.hid hS2
  replace hS3 := Lib.hid hS3
  replace hSW := Lib.hid hSW
  replace hP0 := Lib.hid hP0
  replace hP1 := Lib.hid hP1
  replace hP2 := Lib.hid hP2
  replace hP3 := Lib.hid hP3
  replace hP4 := Lib.hid hP4
  replace hQ0 := Lib.hid hQ0
  replace hQ1 := Lib.hid hQ1
  replace hQ2 := Lib.hid hQ2
  replace hQ3 := Lib.hid hQ3
  replace hR0 := Lib.hid hR0
  replace hR1 := Lib.hid hR1
  replace hR2 := Lib.hid hR2
  replace hR3 := Lib.hid hR3
  replace hck := Lib.hid hck
  replace us := Lib.hid us
  replace kb := Lib.hid kb
  replace hB := Lib.hid hB
  replace hE := Lib.hid hE
  replace hL := Lib.hid hL
  replace hf := Lib.hid hf
  replace harg := Lib.hid harg
  replace h0 := Lib.hid h0
  replace hte := Lib.hid hte
  replace hnl := Lib.hid hnl
  replace hvb := Lib.hid hvb
  replace u1 := Lib.hid u1
  replace u2 := Lib.hid u2
  replace u3 := Lib.hid u3
  replace u4 := Lib.hid u4
  replace u5 := Lib.hid u5
  replace u6 := Lib.hid u6
  replace g0 := Lib.hid g0
  replace g1 := Lib.hid g1
  replace g2 := Lib.hid g2
  replace g3 := Lib.hid g3
  replace z0 := Lib.hid z0
  replace z1 := Lib.hid z1
  replace z2 := Lib.hid z2
  replace z3 := Lib.hid z3
  replace hrow := Lib.hid hrow
  replace hrd := Lib.hid hrd
  clear lf lt ls ln lv lw lB lS lN lV lH
  replace b0 := Lib.hid b0; replace b1 := Lib.hid b1; replace b2 := Lib.hid b2; replace b3 := Lib.hid b3
  have cm0 : U.cell? ⟨w.heap.size, 0, none⟩ = some (.int .i64 (kk : Int)) := blkC hB.out 0
  have cm1 : U.cell? ⟨w.heap.size, 1, none⟩ = some (.int .i64 m.fr) := blkC hB.out 1
  have cm2 : U.cell? ⟨w.heap.size, 2, none⟩ = some (.int .i64 m.tt) := blkC hB.out 2
  have cm3 : U.cell? ⟨w.heap.size, 3, none⟩ = some (.int .i64 m.ro) := blkC hB.out 3
  have cm4 : U.cell? ⟨w.heap.size, 4, none⟩ = some (.int .i64 m.no) := blkC hB.out 4
  have cm5 : U.cell? ⟨w.heap.size, 5, none⟩ = some (.int .i64 m.sl) := blkC hB.out 5
  have cm6 : U.cell? ⟨w.heap.size, 6, none⟩ = some (.int .i64 m.nu) := blkC hB.out 6
  have cm7 : U.cell? ⟨w.heap.size, 7, none⟩ = some (.string (sOf m.v)) := blkC hB.out 7
  have cm8 : U.cell? ⟨w.heap.size, 8, none⟩ = some (.slice A m.l.length c) := blkC hB.out 8
  have lU := blkX hB.out
  go_enter Tryz.func23, Tryz.ntmps23
  go_wp2_with (fail)
  rw [← hU]
  clear hU
  refine (hck.out _ (SL.keep hE.out kb.out)).mono ?_
  rintro e W1 ⟨rfl, b1'⟩
  have kb1 := Lib.hid (kb.out.trans (b1'.mono kb.out.size))
  have hB1 := Lib.hid ((b1'.block _ (blkX hB.out)).trans hB.out)
  clear cm0 cm1 cm2 cm3 cm4 cm5 cm6 cm7 cm8 lU
  clear b1' kb hB
  have kb := kb1; have hB := hB1; clear kb1 hB1
  have cm0 : W1.cell? ⟨w.heap.size, 0, none⟩ = some (.int .i64 (kk : Int)) := blkC hB.out 0
  have cm1 : W1.cell? ⟨w.heap.size, 1, none⟩ = some (.int .i64 m.fr) := blkC hB.out 1
  have cm2 : W1.cell? ⟨w.heap.size, 2, none⟩ = some (.int .i64 m.tt) := blkC hB.out 2
  have cm3 : W1.cell? ⟨w.heap.size, 3, none⟩ = some (.int .i64 m.ro) := blkC hB.out 3
  have cm4 : W1.cell? ⟨w.heap.size, 4, none⟩ = some (.int .i64 m.no) := blkC hB.out 4
  have cm5 : W1.cell? ⟨w.heap.size, 5, none⟩ = some (.int .i64 m.sl) := blkC hB.out 5
  have cm6 : W1.cell? ⟨w.heap.size, 6, none⟩ = some (.int .i64 m.nu) := blkC hB.out 6
  have cm7 : W1.cell? ⟨w.heap.size, 7, none⟩ = some (.string (sOf m.v)) := blkC hB.out 7
  have cm8 : W1.cell? ⟨w.heap.size, 8, none⟩ = some (.slice A m.l.length c) := blkC hB.out 8
  have lU := blkX hB.out
  clear hck
  go_upto_region 5 with (fail)
  obtain ⟨W2, hW2⟩ : ∃ W2, W2 = W1.alloc (.cells #[.string ⟨#[]⟩, .string ⟨#[112, 114, 101, 112, 97, 114, 101]⟩, .string ⟨#[112, 114, 111, 109, 105, 115, 101]⟩, .string ⟨#[114, 101, 106, 101, 99, 116]⟩, .string ⟨#[97, 99, 99, 101, 112, 116]⟩, .string ⟨#[97, 99, 99, 101, 112, 116, 101, 100]⟩, .string ⟨#[99, 104, 111, 115, 101, 110]⟩, .string ⟨#[98, 101, 97, 116]⟩, .string ⟨#[102, 101, 116, 99, 104]⟩, .string ⟨#[115, 110, 97, 112]⟩, .string ⟨#[97, 115, 107]⟩, .string ⟨#[97, 110, 115, 119, 101, 114]⟩] 9) := ⟨_, rfl⟩
  rw [← hW2]
  have b2' : Below W1.heap.size W1 W2 := by rw [hW2]; exact (Below.refl _ W1).alloc (Nat.le_refl _) _
  have hrw := hrow.out W1
  rw [← hW2] at hrw
  have lR : W1.heap.size < W2.heap.size := by rw [hW2]; simp
  replace lR := Lib.hid lR; replace hrw := Lib.hid hrw
  clear hW2 hrow
  have kb1 := Lib.hid (kb.out.trans (b2'.mono kb.out.size))
  have hB1 := Lib.hid ((b2'.block _ (blkX hB.out)).trans hB.out)
  clear cm0 cm1 cm2 cm3 cm4 cm5 cm6 cm7 cm8 lU
  clear b2' kb hB
  have kb := kb1; have hB := hB1; clear kb1 hB1
  have cm0 : W2.cell? ⟨w.heap.size, 0, none⟩ = some (.int .i64 (kk : Int)) := blkC hB.out 0
  have cm1 : W2.cell? ⟨w.heap.size, 1, none⟩ = some (.int .i64 m.fr) := blkC hB.out 1
  have cm2 : W2.cell? ⟨w.heap.size, 2, none⟩ = some (.int .i64 m.tt) := blkC hB.out 2
  have cm3 : W2.cell? ⟨w.heap.size, 3, none⟩ = some (.int .i64 m.ro) := blkC hB.out 3
  have cm4 : W2.cell? ⟨w.heap.size, 4, none⟩ = some (.int .i64 m.no) := blkC hB.out 4
  have cm5 : W2.cell? ⟨w.heap.size, 5, none⟩ = some (.int .i64 m.sl) := blkC hB.out 5
  have cm6 : W2.cell? ⟨w.heap.size, 6, none⟩ = some (.int .i64 m.nu) := blkC hB.out 6
  have cm7 : W2.cell? ⟨w.heap.size, 7, none⟩ = some (.string (sOf m.v)) := blkC hB.out 7
  have cm8 : W2.cell? ⟨w.heap.size, 8, none⟩ = some (.slice A m.l.length c) := blkC hB.out 8
  have lU := blkX hB.out
  go_cut [6] from 19 (fun v wx => v = .string P0 ∧ Below W2.heap.size W2 wx)
  case first =>
    have hSv : ∀ W' : World, Below W2.heap.size W2 W' → (fun W' : World => W'.cell? ⟨w.heap.size, 0, none⟩ = some (.int .i64 (kk : Int)) ∧ W'.cell? ⟨w.heap.size, 1, none⟩ = some (.int .i64 m.fr) ∧ W'.cell? ⟨w.heap.size, 2, none⟩ = some (.int .i64 m.tt) ∧ W'.cell? ⟨W1.heap.size, kk, none⟩ = some (.string SW)) W' := by
      intro W' h1
      exact ⟨(h1.cell (p := ⟨w.heap.size, 0, none⟩) lU).trans cm0, (h1.cell (p := ⟨w.heap.size, 1, none⟩) lU).trans cm1, (h1.cell (p := ⟨w.heap.size, 2, none⟩) lU).trans cm2, (h1.cell (p := ⟨W1.heap.size, kk, none⟩) lR.out).trans hrw.out⟩
    replace hSv := Lib.hid hSv
    have hbD := Lib.hid ((Below.refl W2.heap.size W2).drew)
    clear cm0 cm1 cm2 cm3 cm4 cm5 cm6 cm7 cm8 lU
    refine wp_region_held_drew (S := (fun W' : World => W'.cell? ⟨w.heap.size, 0, none⟩ = some (.int .i64 (kk : Int)) ∧ W'.cell? ⟨w.heap.size, 1, none⟩ = some (.int .i64 m.fr) ∧ W'.cell? ⟨w.heap.size, 2, none⟩ = some (.int .i64 m.tt) ∧ W'.cell? ⟨W1.heap.size, kk, none⟩ = some (.string SW))) (by kernel_rfl) ?_ (fun hH => ?_)
    · exact hSv.out _ hbD.out
    refine wpAnyH_take (i := 0) (v := ?_) rfl (by kernel_rfl) (by kernel_rfl) (by kernel_rfl) (fun _ _ _ h => h) (Or.inl ⟨by rfl, by intro w hSw; go_simp; first | done | with_reducible rfl⟩) hH ?_
    simp only [List.getElem_toArray, List.getElem_cons_succ, List.getElem_cons_zero, Act.put, List.setIfInBounds_toArray, List.set_cons_zero, List.set_cons_succ]
    refine wpAnyH_take (i := 1) (v := ?_) rfl (by kernel_rfl) (by kernel_rfl) (by kernel_rfl) (fun _ _ _ h => h) (Or.inl ⟨by rfl, by intro w hSw; obtain ⟨s0, s1, s2, s3⟩ := hSw; go_simp; first | done | with_reducible rfl⟩) hH ?_
    simp only [List.getElem_toArray, List.getElem_cons_succ, List.getElem_cons_zero, Act.put, List.setIfInBounds_toArray, List.set_cons_zero, List.set_cons_succ]
    refine wpAnyH_take (i := 4) (v := ?_) rfl (by kernel_rfl) (by kernel_rfl) (by kernel_rfl) (fun _ _ _ h => h) (Or.inl ⟨by rfl, by intro w hSw; go_simp; first | done | with_reducible rfl⟩) hH ?_
    simp only [List.getElem_toArray, List.getElem_cons_succ, List.getElem_cons_zero, Act.put, List.setIfInBounds_toArray, List.set_cons_zero, List.set_cons_succ]
    refine wpAnyH_take (i := 5) (v := ?_) rfl (by kernel_rfl) (by kernel_rfl) (by kernel_rfl) (fun _ _ _ h => h) (Or.inl ⟨by rfl, by intro w hSw; obtain ⟨s0, s1, s2, s3⟩ := hSw; go_simp; first | done | with_reducible rfl⟩) hH ?_
    simp only [List.getElem_toArray, List.getElem_cons_succ, List.getElem_cons_zero, Act.put, List.setIfInBounds_toArray, List.set_cons_zero, List.set_cons_succ]
    refine wpAnyH_take (i := 9) (v := ?_) rfl (by kernel_rfl) (by kernel_rfl) (by kernel_rfl) (fun _ _ _ h => h) (Or.inl ⟨by rfl, by intro w hSw; go_simp; first | done | with_reducible rfl⟩) hH ?_
    simp only [List.getElem_toArray, List.getElem_cons_succ, List.getElem_cons_zero, Act.put, List.setIfInBounds_toArray, List.set_cons_zero, List.set_cons_succ]
    refine wpAnyH_take (i := 10) (v := ?_) rfl (by kernel_rfl) (by kernel_rfl) (by kernel_rfl) (fun _ _ _ h => h) (Or.inl ⟨by rfl, by intro w hSw; go_simp; first | done | with_reducible rfl⟩) hH ?_
    simp only [List.getElem_toArray, List.getElem_cons_succ, List.getElem_cons_zero, Act.put, List.setIfInBounds_toArray, List.set_cons_zero, List.set_cons_succ]
    refine wpAnyH_take (i := 11) (v := ?_) rfl (by kernel_rfl) (by kernel_rfl) (by kernel_rfl) (fun _ _ _ h => h) (Or.inl ⟨by rfl, by intro w hSw; obtain ⟨s0, s1, s2, s3⟩ := hSw; go_simp; first | done | with_reducible rfl⟩) hH ?_
    simp only [List.getElem_toArray, List.getElem_cons_succ, List.getElem_cons_zero, Act.put, List.setIfInBounds_toArray, List.set_cons_zero, List.set_cons_succ]
    refine wpAnyH_take (i := 12) (v := ?_) rfl (by kernel_rfl) (by kernel_rfl) (by kernel_rfl) (fun _ _ _ h => h) (Or.inl ⟨by rfl, by intro w hSw; go_simp; first | done | with_reducible rfl⟩) hH ?_
    simp only [List.getElem_toArray, List.getElem_cons_succ, List.getElem_cons_zero, Act.put, List.setIfInBounds_toArray, List.set_cons_zero, List.set_cons_succ]
    refine wpAnyH_take (i := 13) (v := ?_) rfl (by kernel_rfl) (by kernel_rfl) (by kernel_rfl) (fun _ _ _ h => h) (Or.inl ⟨by rfl, by intro w hSw; obtain ⟨s0, s1, s2, s3⟩ := hSw; go_simp; first | done | with_reducible rfl⟩) hH ?_
    simp only [List.getElem_toArray, List.getElem_cons_succ, List.getElem_cons_zero, Act.put, List.setIfInBounds_toArray, List.set_cons_zero, List.set_cons_succ]
    refine wpAnyH_ready (rs := [2]) (by kernel_rfl) (by simp) ?_
    refine AllReadyH.cons rfl (fun K hK => ?_) ?_
    · clear hH
      go_simp
      refine (u1.out _).mono ?_
      rintro e' V ⟨rfl, bV⟩
      have hbE := Lib.hid (hbD.out.trans (bV.mono hbD.out.size))
      clear bV hbD; have hbD := hbE; clear hbE
      refine hK.out _ _ (hSv.out _ hbD.out) (fun hH => ?_)
      clear hK K
      refine wpAnyH_take (i := 3) (v := ?_) rfl (by kernel_rfl) (by kernel_rfl) (by kernel_rfl) (fun _ _ _ h => h) (Or.inl ⟨by rfl, by intro w hSw; go_simp; first | done | with_reducible rfl⟩) hH ?_
      simp only [List.getElem_toArray, List.getElem_cons_succ, List.getElem_cons_zero, Act.put, List.setIfInBounds_toArray, List.set_cons_zero, List.set_cons_succ]
      refine wpAnyH_ready (rs := [6]) (by kernel_rfl) (by simp) ?_
      refine AllReadyH.cons rfl (fun K hK => ?_) ?_
      · clear hH
        go_simp
        refine (u2.out _).mono ?_
        rintro e' V ⟨rfl, bV⟩
        have hbE := Lib.hid (hbD.out.trans (bV.mono hbD.out.size))
        clear bV hbD; have hbD := hbE; clear hbE
        refine hK.out _ _ (hSv.out _ hbD.out) (fun hH => ?_)
        clear hK K
        refine wpAnyH_take (i := 7) (v := ?_) rfl (by kernel_rfl) (by kernel_rfl) (by kernel_rfl) (fun _ _ _ h => h) (Or.inl ⟨by rfl, by intro w hSw; go_simp; first | done | with_reducible rfl⟩) hH ?_
        simp only [List.getElem_toArray, List.getElem_cons_succ, List.getElem_cons_zero, Act.put, List.setIfInBounds_toArray, List.set_cons_zero, List.set_cons_succ]
        refine wpAnyH_take (i := 8) (v := ?_) rfl (by kernel_rfl) (by kernel_rfl) (by kernel_rfl) (fun _ _ _ h => h) (Or.inl ⟨by rfl, by intro w hSw; go_simp; first | done | with_reducible rfl⟩) hH ?_
        simp only [List.getElem_toArray, List.getElem_cons_succ, List.getElem_cons_zero, Act.put, List.setIfInBounds_toArray, List.set_cons_zero, List.set_cons_succ]
        refine wpAnyH_take (i := 14) (v := ?_) rfl (by kernel_rfl) (by kernel_rfl) (by kernel_rfl) (fun _ _ _ h => h) (Or.inl ⟨by rfl, by intro w hSw; go_simp; first | done | with_reducible rfl⟩) hH ?_
        simp only [List.getElem_toArray, List.getElem_cons_succ, List.getElem_cons_zero, Act.put, List.setIfInBounds_toArray, List.set_cons_zero, List.set_cons_succ]
        refine wpAnyH_take (i := 15) (v := ?_) rfl (by kernel_rfl) (by kernel_rfl) (by kernel_rfl) (fun _ _ _ h => h) (Or.inl ⟨by rfl, by intro w hSw; go_simp; first | done | with_reducible rfl⟩) hH ?_
        simp only [List.getElem_toArray, List.getElem_cons_succ, List.getElem_cons_zero, Act.put, List.setIfInBounds_toArray, List.set_cons_zero, List.set_cons_succ]
        refine wpAnyH_done (by kernel_rfl) ?_ _
        clear hH
        go_wp2_with (fail)
        go_meet
        exact ⟨rfl, hbD.out⟩
      exact AllReadyH.nil
    exact AllReadyH.nil
  case rest =>
    obtain ⟨rfl, b3'⟩ := hcut
    clear a1 a2 a3 a4 u1 u2
    have kb1 := Lib.hid (kb.out.trans (b3'.mono kb.out.size))
    have hB1 := Lib.hid ((b3'.block _ (blkX hB.out)).trans hB.out)
    clear cm0 cm1 cm2 cm3 cm4 cm5 cm6 cm7 cm8 lU
    clear b3' kb hB
    have kb := kb1; have hB := hB1; clear kb1 hB1
    have cm0 : wc.cell? ⟨w.heap.size, 0, none⟩ = some (.int .i64 (kk : Int)) := blkC hB.out 0
    have cm1 : wc.cell? ⟨w.heap.size, 1, none⟩ = some (.int .i64 m.fr) := blkC hB.out 1
    have cm2 : wc.cell? ⟨w.heap.size, 2, none⟩ = some (.int .i64 m.tt) := blkC hB.out 2
    have cm3 : wc.cell? ⟨w.heap.size, 3, none⟩ = some (.int .i64 m.ro) := blkC hB.out 3
    have cm4 : wc.cell? ⟨w.heap.size, 4, none⟩ = some (.int .i64 m.no) := blkC hB.out 4
    have cm5 : wc.cell? ⟨w.heap.size, 5, none⟩ = some (.int .i64 m.sl) := blkC hB.out 5
    have cm6 : wc.cell? ⟨w.heap.size, 6, none⟩ = some (.int .i64 m.nu) := blkC hB.out 6
    have cm7 : wc.cell? ⟨w.heap.size, 7, none⟩ = some (.string (sOf m.v)) := blkC hB.out 7
    have cm8 : wc.cell? ⟨w.heap.size, 8, none⟩ = some (.slice A m.l.length c) := blkC hB.out 8
    have lU := blkX hB.out
    generalize wc = W3 at *
    go_wp2_with (fail)
    refine (us.out _).mono ?_
    rintro e V0 ⟨rfl, rfl⟩
    clear us
    go_upto_if 43 with (fail)
    go_cut [6, 7] from 34 (fun v bb wx => v = .string P1 ∧ bb = .bool (uB m.k) ∧ Below W3.heap.size W3 wx)
    case first =>
      rcases Bool.eq_false_or_eq_true (uB m.k) with hu | hu
      · have ga := g0.out hu; have bb := b0.out
        have uu := u6.out hu _ (hL.out.keep kb.out)
        rw [hu]
        go_wp2_with (fail)
        refine (uu).mono ?_
        rintro e V ⟨rfl, bV⟩
        replace bV := Lib.hid bV
        go_wp2_with (fail)
        go_meet
        exact ⟨rfl, by rw [hu], bV.out⟩
      · have hz := Lib.hid (z0.out hu)
        rw [hu]
        go_wp2_with (fail)
        go_meet
        exact ⟨by rw [hz.out], by rw [hu], Below.refl _ _⟩
    case rest =>
      obtain ⟨rfl, rfl, b4'⟩ := hcut
      have kb1 := Lib.hid (kb.out.trans (b4'.mono kb.out.size))
      have hB1 := Lib.hid ((b4'.block _ (blkX hB.out)).trans hB.out)
      clear cm0 cm1 cm2 cm3 cm4 cm5 cm6 cm7 cm8 lU
      clear b4' kb hB
      have kb := kb1; have hB := hB1; clear kb1 hB1
      have cm0 : wc.cell? ⟨w.heap.size, 0, none⟩ = some (.int .i64 (kk : Int)) := blkC hB.out 0
      have cm1 : wc.cell? ⟨w.heap.size, 1, none⟩ = some (.int .i64 m.fr) := blkC hB.out 1
      have cm2 : wc.cell? ⟨w.heap.size, 2, none⟩ = some (.int .i64 m.tt) := blkC hB.out 2
      have cm3 : wc.cell? ⟨w.heap.size, 3, none⟩ = some (.int .i64 m.ro) := blkC hB.out 3
      have cm4 : wc.cell? ⟨w.heap.size, 4, none⟩ = some (.int .i64 m.no) := blkC hB.out 4
      have cm5 : wc.cell? ⟨w.heap.size, 5, none⟩ = some (.int .i64 m.sl) := blkC hB.out 5
      have cm6 : wc.cell? ⟨w.heap.size, 6, none⟩ = some (.int .i64 m.nu) := blkC hB.out 6
      have cm7 : wc.cell? ⟨w.heap.size, 7, none⟩ = some (.string (sOf m.v)) := blkC hB.out 7
      have cm8 : wc.cell? ⟨w.heap.size, 8, none⟩ = some (.slice A m.l.length c) := blkC hB.out 8
      have lU := blkX hB.out
      generalize wc = W4 at *
      go_upto_if 50 with (fail)
      go_cut [6, 8] from 34 (fun v bb wx => v = .string P2 ∧ bb = .bool (uS m.k) ∧ Below W4.heap.size W4 wx)
      case first =>
        rcases Bool.eq_false_or_eq_true (uS m.k) with hu | hu
        · have ga := g1.out hu; have bb := b1.out
          rw [hu]
          go_wp2_with (fail)
          refine (u3.out _).mono ?_
          rintro e V ⟨rfl, bV⟩
          replace bV := Lib.hid bV
          go_wp2_with (fail)
          go_meet
          exact ⟨rfl, by rw [hu], bV.out⟩
        · have hz := Lib.hid (z1.out hu)
          rw [hu]
          go_wp2_with (fail)
          go_meet
          exact ⟨by rw [hz.out], by rw [hu], Below.refl _ _⟩
      case rest =>
        obtain ⟨rfl, rfl, b4'⟩ := hcut
        have kb1 := Lib.hid (kb.out.trans (b4'.mono kb.out.size))
        have hB1 := Lib.hid ((b4'.block _ (blkX hB.out)).trans hB.out)
        clear cm0 cm1 cm2 cm3 cm4 cm5 cm6 cm7 cm8 lU
        clear b4' kb hB
        have kb := kb1; have hB := hB1; clear kb1 hB1
        have cm0 : wc.cell? ⟨w.heap.size, 0, none⟩ = some (.int .i64 (kk : Int)) := blkC hB.out 0
        have cm1 : wc.cell? ⟨w.heap.size, 1, none⟩ = some (.int .i64 m.fr) := blkC hB.out 1
        have cm2 : wc.cell? ⟨w.heap.size, 2, none⟩ = some (.int .i64 m.tt) := blkC hB.out 2
        have cm3 : wc.cell? ⟨w.heap.size, 3, none⟩ = some (.int .i64 m.ro) := blkC hB.out 3
        have cm4 : wc.cell? ⟨w.heap.size, 4, none⟩ = some (.int .i64 m.no) := blkC hB.out 4
        have cm5 : wc.cell? ⟨w.heap.size, 5, none⟩ = some (.int .i64 m.sl) := blkC hB.out 5
        have cm6 : wc.cell? ⟨w.heap.size, 6, none⟩ = some (.int .i64 m.nu) := blkC hB.out 6
        have cm7 : wc.cell? ⟨w.heap.size, 7, none⟩ = some (.string (sOf m.v)) := blkC hB.out 7
        have cm8 : wc.cell? ⟨w.heap.size, 8, none⟩ = some (.slice A m.l.length c) := blkC hB.out 8
        have lU := blkX hB.out
        generalize wc = W5 at *
        go_upto_if 57 with (fail)
        go_cut [6, 9] from 34 (fun v bb wx => v = .string P3 ∧ bb = .bool (uN m.k) ∧ Below W5.heap.size W5 wx)
        case first =>
          rcases Bool.eq_false_or_eq_true (uN m.k) with hu | hu
          · have ga := g2.out hu; have bb := b2.out
            rw [hu]
            go_wp2_with (fail)
            refine (u4.out _).mono ?_
            rintro e V ⟨rfl, bV⟩
            replace bV := Lib.hid bV
            go_wp2_with (fail)
            go_meet
            exact ⟨rfl, by rw [hu], bV.out⟩
          · have hz := Lib.hid (z2.out hu)
            rw [hu]
            go_wp2_with (fail)
            go_meet
            exact ⟨by rw [hz.out], by rw [hu], Below.refl _ _⟩
        case rest =>
          obtain ⟨rfl, rfl, b4'⟩ := hcut
          have kb1 := Lib.hid (kb.out.trans (b4'.mono kb.out.size))
          have hB1 := Lib.hid ((b4'.block _ (blkX hB.out)).trans hB.out)
          clear cm0 cm1 cm2 cm3 cm4 cm5 cm6 cm7 cm8 lU
          clear b4' kb hB
          have kb := kb1; have hB := hB1; clear kb1 hB1
          have cm0 : wc.cell? ⟨w.heap.size, 0, none⟩ = some (.int .i64 (kk : Int)) := blkC hB.out 0
          have cm1 : wc.cell? ⟨w.heap.size, 1, none⟩ = some (.int .i64 m.fr) := blkC hB.out 1
          have cm2 : wc.cell? ⟨w.heap.size, 2, none⟩ = some (.int .i64 m.tt) := blkC hB.out 2
          have cm3 : wc.cell? ⟨w.heap.size, 3, none⟩ = some (.int .i64 m.ro) := blkC hB.out 3
          have cm4 : wc.cell? ⟨w.heap.size, 4, none⟩ = some (.int .i64 m.no) := blkC hB.out 4
          have cm5 : wc.cell? ⟨w.heap.size, 5, none⟩ = some (.int .i64 m.sl) := blkC hB.out 5
          have cm6 : wc.cell? ⟨w.heap.size, 6, none⟩ = some (.int .i64 m.nu) := blkC hB.out 6
          have cm7 : wc.cell? ⟨w.heap.size, 7, none⟩ = some (.string (sOf m.v)) := blkC hB.out 7
          have cm8 : wc.cell? ⟨w.heap.size, 8, none⟩ = some (.slice A m.l.length c) := blkC hB.out 8
          have lU := blkX hB.out
          generalize wc = W6 at *
          go_upto_if 64 with (fail)
          go_cut [6, 10] from 34 (fun v bb wx => v = .string P4 ∧ bb = .bool (uV m.k) ∧ Below W6.heap.size W6 wx)
          case first =>
            rcases Bool.eq_false_or_eq_true (uV m.k) with hu | hu
            · have ga := g3.out hu; have bb := b3.out
              rw [hu]
              go_wp2_with (fail)
              refine (u5.out _).mono ?_
              rintro e V ⟨rfl, bV⟩
              replace bV := Lib.hid bV
              go_wp2_with (fail)
              go_meet
              exact ⟨rfl, by rw [hu], bV.out⟩
            · have hz := Lib.hid (z3.out hu)
              rw [hu]
              go_wp2_with (fail)
              go_meet
              exact ⟨by rw [hz.out], by rw [hu], Below.refl _ _⟩
          case rest =>
            obtain ⟨rfl, rfl, b4'⟩ := hcut
            have kb1 := Lib.hid (kb.out.trans (b4'.mono kb.out.size))
            have hB1 := Lib.hid ((b4'.block _ (blkX hB.out)).trans hB.out)
            clear cm0 cm1 cm2 cm3 cm4 cm5 cm6 cm7 cm8 lU
            clear b4' kb hB
            have kb := kb1; have hB := hB1; clear kb1 hB1
            have cm0 : wc.cell? ⟨w.heap.size, 0, none⟩ = some (.int .i64 (kk : Int)) := blkC hB.out 0
            have cm1 : wc.cell? ⟨w.heap.size, 1, none⟩ = some (.int .i64 m.fr) := blkC hB.out 1
            have cm2 : wc.cell? ⟨w.heap.size, 2, none⟩ = some (.int .i64 m.tt) := blkC hB.out 2
            have cm3 : wc.cell? ⟨w.heap.size, 3, none⟩ = some (.int .i64 m.ro) := blkC hB.out 3
            have cm4 : wc.cell? ⟨w.heap.size, 4, none⟩ = some (.int .i64 m.no) := blkC hB.out 4
            have cm5 : wc.cell? ⟨w.heap.size, 5, none⟩ = some (.int .i64 m.sl) := blkC hB.out 5
            have cm6 : wc.cell? ⟨w.heap.size, 6, none⟩ = some (.int .i64 m.nu) := blkC hB.out 6
            have cm7 : wc.cell? ⟨w.heap.size, 7, none⟩ = some (.string (sOf m.v)) := blkC hB.out 7
            have cm8 : wc.cell? ⟨w.heap.size, 8, none⟩ = some (.slice A m.l.length c) := blkC hB.out 8
            have lU := blkX hB.out
            generalize wc = W7 at *
            clear b0 b1 b2 b3 g0 g1 g2 g3 z0 z1 z2 z3 u3 u4 u6
            have hP4' := hP4.out
            subst hP4'
            go_wp2_with (fail)
            obtain ⟨T4, hT4⟩ : ∃ T4, T4 = tHead m ++ tB m ++ tS m ++ tN m ++ tV m := ⟨_, rfl⟩
            rw [← hT4] at lP4
            have hfin2 := hfin.out
            rw [← hT4] at hfin2
            replace hfin2 := Lib.hid hfin2
            skip
            go_loopw [6, 12] (fun s i wr => ∃ k : Nat, k ≤ m.l.length ∧ i = .int .i64 k ∧ s = .string (sOf (T4 ++ tEnts (m.l.take k))) ∧ Below W7.heap.size W7 wr) (fun _ i _ => m.l.length - (intOf i).toNat)
            case atStart => exact ⟨0, by omega, rfl, by rw [hT4]; simp [tEnts], Below.refl _ _⟩
            case round =>
              revert wr
              intro Y hrel
              obtain ⟨k, hk, rfl, rfl, hbw⟩ := hrel
              have z8 := (hbw.cell (p := ⟨w.heap.size, 8, none⟩) lU).trans cm8
              have lU2 := Nat.lt_of_lt_of_le lU hbw.size
              clear cm0 cm1 cm2 cm3 cm4 cm5 cm6 cm7 cm8 lU
              have lU := lU2; clear lU2
              have kx := Lib.hid (kb.out.trans (hbw.mono kb.out.size))
              by_cases hlt : k < m.l.length
              · have k0' : (0 : Int) ≤ k := by omega
                have k1' : (k : Int) < (m.l.length : Int) := by omega
                obtain ⟨b, o, e, rfl, hbl, hx, c0, c1, c2, c3⟩ := ES.at_ hE.out hlt
                have e0 := kx.out.cell (p := ⟨b, o + k * 4, none⟩) hbl
                have e1 := kx.out.cell (p := ⟨b, o + k * 4 + 1, none⟩) hbl
                have e2 := kx.out.cell (p := ⟨b, o + k * 4 + 2, none⟩) hbl
                have e3 := kx.out.cell (p := ⟨b, o + k * 4 + 3, none⟩) hbl
                rw [c0] at e0; rw [c1] at e1; rw [c2] at e2; rw [c3] at e3
                have lE := Nat.lt_of_lt_of_le hbl kx.out.size
                clear c0 c1 c2 c3
                obtain ⟨t1, t2, t3⟩ := hte.out e (List.mem_of_getElem? hx)
                have hsn := tEnts_snoc hx
                have hlen := tEnts_len (l := m.l.take k) fun y hy => hte.out y (List.mem_of_mem_take hy)
                rw [List.length_take] at hlen
                have ld := dec_len20 e.sl.toNat (by omega)
                have lt := (txt_len t2).1
                have lv := some_len e.v t3
                obtain ⟨Z, hZ⟩ : ∃ Z, Z = T4 ++ tEnts (m.l.take k) := ⟨_, rfl⟩
                have lZ : Z.length ≤ 1000000 := by rw [hZ, List.length_append]; omega
                rw [← hZ]
                obtain ⟨Y0, hY0⟩ : ∃ S : ByteArray, S = sOf (Z) := ⟨_, rfl⟩
                obtain ⟨Y1, hY1⟩ : ∃ S : ByteArray, S = sOf (Z ++ [32]) := ⟨_, rfl⟩
                obtain ⟨D1, hD1⟩ : ∃ S : ByteArray, S = sOf (Lib.decDigits e.sl.toNat) := ⟨_, rfl⟩
                obtain ⟨Y2, hY2⟩ : ∃ S : ByteArray, S = sOf (Z ++ [32] ++ Lib.decDigits e.sl.toNat) := ⟨_, rfl⟩
                obtain ⟨Y3, hY3⟩ : ∃ S : ByteArray, S = sOf (Z ++ [32] ++ Lib.decDigits e.sl.toNat ++ [47]) := ⟨_, rfl⟩
                obtain ⟨D2, hD2⟩ : ∃ S : ByteArray, S = sOf (txt e.ro e.no) := ⟨_, rfl⟩
                obtain ⟨Y4, hY4⟩ : ∃ S : ByteArray, S = sOf (Z ++ [32] ++ Lib.decDigits e.sl.toNat ++ [47] ++ txt e.ro e.no) := ⟨_, rfl⟩
                obtain ⟨Y5, hY5⟩ : ∃ S : ByteArray, S = sOf (Z ++ [32] ++ Lib.decDigits e.sl.toNat ++ [47] ++ txt e.ro e.no ++ [47]) := ⟨_, rfl⟩
                obtain ⟨D3, hD3⟩ : ∃ S : ByteArray, S = sOf (someV e.v) := ⟨_, rfl⟩
                obtain ⟨Y6, hY6⟩ : ∃ S : ByteArray, S = sOf (T4 ++ tEnts (m.l.take (k + 1))) := ⟨_, rfl⟩
                have q1 := add_run (T := ⟨#[32]⟩) hY0 rfl hY1 (by simp only [List.length_append, List.length_singleton]; omega)
                have q2 := add_run hY1 hD1 hY2 (by simp only [List.length_append, List.length_singleton]; omega)
                have q3 := add_run (T := ⟨#[47]⟩) hY2 rfl hY3 (by simp only [List.length_append, List.length_singleton]; omega)
                have q4 := add_run hY3 hD2 hY4 (by simp only [List.length_append, List.length_singleton]; omega)
                have q5 := add_run (T := ⟨#[47]⟩) hY4 rfl hY5 (by simp only [List.length_append, List.length_singleton]; omega)
                have q6 := add_run hY5 hD3 (hY6.trans (by rw [hsn, hZ]; simp [tEnt])) (by simp only [List.length_append, List.length_singleton]; omega)
                have v1 := fun W => hrd.out e.sl (by omega) (by omega) W
                have v2 := fun W hW => rname_any e.ro e.no t2 W hW
                have v3 := fun W => rsome_any e.v (by omega) W
                rw [← hD1] at v1; rw [← hD2] at v2; rw [← hD3] at v3
                rw [← hY0]
                replace v1 := Lib.hid v1
                replace v2 := Lib.hid v2
                replace v3 := Lib.hid v3
                replace hY0 := Lib.hid hY0
                replace hY1 := Lib.hid hY1
                replace hY2 := Lib.hid hY2
                replace hY3 := Lib.hid hY3
                replace hY4 := Lib.hid hY4
                replace hY5 := Lib.hid hY5
                replace hY6 := Lib.hid hY6
                replace hD1 := Lib.hid hD1
                replace hD2 := Lib.hid hD2
                replace hD3 := Lib.hid hD3
                replace hZ := Lib.hid hZ
                replace hsn := Lib.hid hsn
                replace hlen := Lib.hid hlen
                replace hx := Lib.hid hx
                replace hbw := Lib.hid hbw
                have hSv : ∀ W' : World, Below Y.heap.size Y W' → (fun W' : World => W'.cell? ⟨w.heap.size, 8, none⟩ = some (.slice (some ⟨b, o, none⟩) m.l.length c) ∧ W'.cell? ⟨b, o + k * 4, none⟩ = some (.int .i64 e.sl) ∧ W'.cell? ⟨b, o + k * 4 + 1, none⟩ = some (.int .i64 e.ro) ∧ W'.cell? ⟨b, o + k * 4 + 2, none⟩ = some (.int .i64 e.no) ∧ W'.cell? ⟨b, o + k * 4 + 3, none⟩ = some (.string (sOf e.v))) W' := by
                  intro W' h1
                  exact ⟨(h1.cell (p := ⟨w.heap.size, 8, none⟩) lU).trans z8, (h1.cell (p := ⟨b, _, none⟩) lE).trans e0, (h1.cell (p := ⟨b, _, none⟩) lE).trans e1, (h1.cell (p := ⟨b, _, none⟩) lE).trans e2, (h1.cell (p := ⟨b, _, none⟩) lE).trans e3⟩
                replace hSv := Lib.hid hSv
                have hbD := Lib.hid ((Below.refl Y.heap.size Y).drew)
                clear t1 t2 t3 ld lt lv lZ hbl
                go_wp2_with (fail)
                clear z8 e0 e1 e2 e3 lU lE
                refine wp_region_held_drew (S := (fun W' : World => W'.cell? ⟨w.heap.size, 8, none⟩ = some (.slice (some ⟨b, o, none⟩) m.l.length c) ∧ W'.cell? ⟨b, o + k * 4, none⟩ = some (.int .i64 e.sl) ∧ W'.cell? ⟨b, o + k * 4 + 1, none⟩ = some (.int .i64 e.ro) ∧ W'.cell? ⟨b, o + k * 4 + 2, none⟩ = some (.int .i64 e.no) ∧ W'.cell? ⟨b, o + k * 4 + 3, none⟩ = some (.string (sOf e.v)))) (by kernel_rfl) ?_ (fun hH => ?_)
                · exact hSv.out _ hbD.out
                refine wpAnyH_take (i := 0) (v := ?_) rfl (by kernel_rfl) (by kernel_rfl) (by kernel_rfl) (fun _ _ _ h => h) (Or.inl ⟨by rfl, by intro w hSw; go_simp; first | done | with_reducible rfl⟩) hH ?_
                simp only [List.getElem_toArray, List.getElem_cons_succ, List.getElem_cons_zero, Act.put, List.setIfInBounds_toArray, List.set_cons_zero, List.set_cons_succ]
                refine wpAnyH_take (i := 1) (v := ?_) rfl (by kernel_rfl) (by kernel_rfl) (by kernel_rfl) (fun _ _ _ h => h) (Or.inl ⟨by rfl, by intro w hSw; go_simp; first | done | with_reducible rfl⟩) hH ?_
                simp only [List.getElem_toArray, List.getElem_cons_succ, List.getElem_cons_zero, Act.put, List.setIfInBounds_toArray, List.set_cons_zero, List.set_cons_succ]
                refine wpAnyH_take (i := 2) (v := ?_) rfl (by kernel_rfl) (by kernel_rfl) (by kernel_rfl) (fun _ _ _ h => h) (Or.inl ⟨by rfl, by intro w hSw; go_simp; first | done | with_reducible rfl⟩) hH ?_
                simp only [List.getElem_toArray, List.getElem_cons_succ, List.getElem_cons_zero, Act.put, List.setIfInBounds_toArray, List.set_cons_zero, List.set_cons_succ]
                refine wpAnyH_take (i := 3) (v := ?_) rfl (by kernel_rfl) (by kernel_rfl) (by kernel_rfl) (fun _ _ _ h => h) (Or.inl ⟨by rfl, by intro w hSw; obtain ⟨s0, s1, s2, s3, s4⟩ := hSw; go_simp; first | done | with_reducible rfl⟩) hH ?_
                simp only [List.getElem_toArray, List.getElem_cons_succ, List.getElem_cons_zero, Act.put, List.setIfInBounds_toArray, List.set_cons_zero, List.set_cons_succ]
                refine wpAnyH_take (i := 4) (v := ?_) rfl (by kernel_rfl) (by kernel_rfl) (by kernel_rfl) (fun _ _ _ h => h) (Or.inl ⟨by rfl, by intro w hSw; go_simp; first | done | with_reducible rfl⟩) hH ?_
                simp only [List.getElem_toArray, List.getElem_cons_succ, List.getElem_cons_zero, Act.put, List.setIfInBounds_toArray, List.set_cons_zero, List.set_cons_succ]
                refine wpAnyH_take (i := 5) (v := ?_) rfl (by kernel_rfl) (by kernel_rfl) (by kernel_rfl) (fun _ _ _ h => h) (Or.inl ⟨by rfl, by intro w hSw; go_simp; first | done | with_reducible rfl⟩) hH ?_
                simp only [List.getElem_toArray, List.getElem_cons_succ, List.getElem_cons_zero, Act.put, List.setIfInBounds_toArray, List.set_cons_zero, List.set_cons_succ]
                refine wpAnyH_take (i := 6) (v := ?_) rfl (by kernel_rfl) (by kernel_rfl) (by kernel_rfl) (fun _ _ _ h => h) (Or.inl ⟨by rfl, by intro w hSw; go_simp; first | done | with_reducible rfl⟩) hH ?_
                simp only [List.getElem_toArray, List.getElem_cons_succ, List.getElem_cons_zero, Act.put, List.setIfInBounds_toArray, List.set_cons_zero, List.set_cons_succ]
                refine wpAnyH_take (i := 7) (v := ?_) rfl (by kernel_rfl) (by kernel_rfl) (by kernel_rfl) (fun _ _ _ h => h) (Or.inl ⟨by rfl, by intro w hSw; obtain ⟨s0, s1, s2, s3, s4⟩ := hSw; go_simp; first | done | with_reducible rfl⟩) hH ?_
                simp only [List.getElem_toArray, List.getElem_cons_succ, List.getElem_cons_zero, Act.put, List.setIfInBounds_toArray, List.set_cons_zero, List.set_cons_succ]
                refine wpAnyH_take (i := 11) (v := ?_) rfl (by kernel_rfl) (by kernel_rfl) (by kernel_rfl) (fun _ _ _ h => h) (Or.inl ⟨by rfl, by intro w hSw; go_simp; first | done | with_reducible rfl⟩) hH ?_
                simp only [List.getElem_toArray, List.getElem_cons_succ, List.getElem_cons_zero, Act.put, List.setIfInBounds_toArray, List.set_cons_zero, List.set_cons_succ]
                refine wpAnyH_take (i := 12) (v := ?_) rfl (by kernel_rfl) (by kernel_rfl) (by kernel_rfl) (fun _ _ _ h => h) (Or.inl ⟨by rfl, by intro w hSw; obtain ⟨s0, s1, s2, s3, s4⟩ := hSw; go_simp; first | done | with_reducible rfl⟩) hH ?_
                simp only [List.getElem_toArray, List.getElem_cons_succ, List.getElem_cons_zero, Act.put, List.setIfInBounds_toArray, List.set_cons_zero, List.set_cons_succ]
                refine wpAnyH_take (i := 13) (v := ?_) rfl (by kernel_rfl) (by kernel_rfl) (by kernel_rfl) (fun _ _ _ h => h) (Or.inl ⟨by rfl, by intro w hSw; go_simp; first | done | with_reducible rfl⟩) hH ?_
                simp only [List.getElem_toArray, List.getElem_cons_succ, List.getElem_cons_zero, Act.put, List.setIfInBounds_toArray, List.set_cons_zero, List.set_cons_succ]
                refine wpAnyH_take (i := 14) (v := ?_) rfl (by kernel_rfl) (by kernel_rfl) (by kernel_rfl) (fun _ _ _ h => h) (Or.inl ⟨by rfl, by intro w hSw; go_simp; first | done | with_reducible rfl⟩) hH ?_
                simp only [List.getElem_toArray, List.getElem_cons_succ, List.getElem_cons_zero, Act.put, List.setIfInBounds_toArray, List.set_cons_zero, List.set_cons_succ]
                refine wpAnyH_take (i := 15) (v := ?_) rfl (by kernel_rfl) (by kernel_rfl) (by kernel_rfl) (fun _ _ _ h => h) (Or.inl ⟨by rfl, by intro w hSw; go_simp; first | done | with_reducible rfl⟩) hH ?_
                simp only [List.getElem_toArray, List.getElem_cons_succ, List.getElem_cons_zero, Act.put, List.setIfInBounds_toArray, List.set_cons_zero, List.set_cons_succ]
                refine wpAnyH_take (i := 16) (v := ?_) rfl (by kernel_rfl) (by kernel_rfl) (by kernel_rfl) (fun _ _ _ h => h) (Or.inl ⟨by rfl, by intro w hSw; obtain ⟨s0, s1, s2, s3, s4⟩ := hSw; go_simp; first | done | with_reducible rfl⟩) hH ?_
                simp only [List.getElem_toArray, List.getElem_cons_succ, List.getElem_cons_zero, Act.put, List.setIfInBounds_toArray, List.set_cons_zero, List.set_cons_succ]
                refine wpAnyH_take (i := 20) (v := ?_) rfl (by kernel_rfl) (by kernel_rfl) (by kernel_rfl) (fun _ _ _ h => h) (Or.inl ⟨by rfl, by intro w hSw; go_simp; first | done | with_reducible rfl⟩) hH ?_
                simp only [List.getElem_toArray, List.getElem_cons_succ, List.getElem_cons_zero, Act.put, List.setIfInBounds_toArray, List.set_cons_zero, List.set_cons_succ]
                refine wpAnyH_take (i := 21) (v := ?_) rfl (by kernel_rfl) (by kernel_rfl) (by kernel_rfl) (fun _ _ _ h => h) (Or.inl ⟨by rfl, by intro w hSw; obtain ⟨s0, s1, s2, s3, s4⟩ := hSw; go_simp; first | done | with_reducible rfl⟩) hH ?_
                simp only [List.getElem_toArray, List.getElem_cons_succ, List.getElem_cons_zero, Act.put, List.setIfInBounds_toArray, List.set_cons_zero, List.set_cons_succ]
                refine wpAnyH_take (i := 22) (v := ?_) rfl (by kernel_rfl) (by kernel_rfl) (by kernel_rfl) (fun _ _ _ h => h) (Or.inl ⟨by rfl, by intro w hSw; go_simp; first | done | with_reducible rfl⟩) hH ?_
                simp only [List.getElem_toArray, List.getElem_cons_succ, List.getElem_cons_zero, Act.put, List.setIfInBounds_toArray, List.set_cons_zero, List.set_cons_succ]
                refine wpAnyH_take (i := 23) (v := ?_) rfl (by kernel_rfl) (by kernel_rfl) (by kernel_rfl) (fun _ _ _ h => h) (Or.inl ⟨by rfl, by intro w hSw; go_simp; first | done | with_reducible rfl⟩) hH ?_
                simp only [List.getElem_toArray, List.getElem_cons_succ, List.getElem_cons_zero, Act.put, List.setIfInBounds_toArray, List.set_cons_zero, List.set_cons_succ]
                refine wpAnyH_take (i := 24) (v := ?_) rfl (by kernel_rfl) (by kernel_rfl) (by kernel_rfl) (fun _ _ _ h => h) (Or.inl ⟨by rfl, by intro w hSw; go_simp; first | done | with_reducible rfl⟩) hH ?_
                simp only [List.getElem_toArray, List.getElem_cons_succ, List.getElem_cons_zero, Act.put, List.setIfInBounds_toArray, List.set_cons_zero, List.set_cons_succ]
                refine wpAnyH_take (i := 25) (v := ?_) rfl (by kernel_rfl) (by kernel_rfl) (by kernel_rfl) (fun _ _ _ h => h) (Or.inl ⟨by rfl, by intro w hSw; obtain ⟨s0, s1, s2, s3, s4⟩ := hSw; go_simp; first | done | with_reducible rfl⟩) hH ?_
                simp only [List.getElem_toArray, List.getElem_cons_succ, List.getElem_cons_zero, Act.put, List.setIfInBounds_toArray, List.set_cons_zero, List.set_cons_succ]
                refine wpAnyH_ready (rs := [8]) (by kernel_rfl) (by simp) ?_
                refine AllReadyH.cons rfl (fun K hK => ?_) ?_
                · clear hH
                  go_simp
                  refine (v1.out _).mono ?_
                  rintro e' V ⟨rfl, bV⟩
                  have hbE := Lib.hid (hbD.out.trans (bV.mono hbD.out.size))
                  clear bV hbD; have hbD := hbE; clear hbE
                  refine hK.out _ _ (hSv.out _ hbD.out) (fun hH => ?_)
                  clear hK K
                  refine wpAnyH_take (i := 9) (v := ?_) rfl (by kernel_rfl) (by kernel_rfl) (by kernel_rfl) (fun _ _ _ h => h) (Or.inl ⟨by rfl, by intro w hSw; go_simp; first | done | with_reducible rfl⟩) hH ?_
                  simp only [List.getElem_toArray, List.getElem_cons_succ, List.getElem_cons_zero, Act.put, List.setIfInBounds_toArray, List.set_cons_zero, List.set_cons_succ]
                  refine wpAnyH_take (i := 10) (v := ?_) rfl (by kernel_rfl) (by kernel_rfl) (by kernel_rfl) (fun _ _ _ h => h) (Or.inl ⟨by rfl, by intro w hSw; go_simp; first | done | with_reducible rfl⟩) hH ?_
                  simp only [List.getElem_toArray, List.getElem_cons_succ, List.getElem_cons_zero, Act.put, List.setIfInBounds_toArray, List.set_cons_zero, List.set_cons_succ]
                  refine wpAnyH_ready (rs := [17]) (by kernel_rfl) (by simp) ?_
                  refine AllReadyH.cons rfl (fun K hK => ?_) ?_
                  · clear hH
                    go_simp
                    refine (v2.out _ (hL.out.keep (kx.out.trans (hbD.out.mono kx.out.size)))).mono ?_
                    rintro e' V ⟨rfl, bV⟩
                    have hbE := Lib.hid (hbD.out.trans (bV.mono hbD.out.size))
                    clear bV hbD; have hbD := hbE; clear hbE
                    refine hK.out _ _ (hSv.out _ hbD.out) (fun hH => ?_)
                    clear hK K
                    refine wpAnyH_take (i := 18) (v := ?_) rfl (by kernel_rfl) (by kernel_rfl) (by kernel_rfl) (fun _ _ _ h => h) (Or.inl ⟨by rfl, by intro w hSw; go_simp; first | done | with_reducible rfl⟩) hH ?_
                    simp only [List.getElem_toArray, List.getElem_cons_succ, List.getElem_cons_zero, Act.put, List.setIfInBounds_toArray, List.set_cons_zero, List.set_cons_succ]
                    refine wpAnyH_take (i := 19) (v := ?_) rfl (by kernel_rfl) (by kernel_rfl) (by kernel_rfl) (fun _ _ _ h => h) (Or.inl ⟨by rfl, by intro w hSw; go_simp; first | done | with_reducible rfl⟩) hH ?_
                    simp only [List.getElem_toArray, List.getElem_cons_succ, List.getElem_cons_zero, Act.put, List.setIfInBounds_toArray, List.set_cons_zero, List.set_cons_succ]
                    refine wpAnyH_ready (rs := [26]) (by kernel_rfl) (by simp) ?_
                    refine AllReadyH.cons rfl (fun K hK => ?_) ?_
                    · clear hH
                      go_simp
                      refine (v3.out _).mono ?_
                      rintro e' V ⟨rfl, bV⟩
                      have hbE := Lib.hid (hbD.out.trans (bV.mono hbD.out.size))
                      clear bV hbD; have hbD := hbE; clear hbE
                      refine hK.out _ _ (hSv.out _ hbD.out) (fun hH => ?_)
                      clear hK K
                      refine wpAnyH_take (i := 27) (v := ?_) rfl (by kernel_rfl) (by kernel_rfl) (by kernel_rfl) (fun _ _ _ h => h) (Or.inl ⟨by rfl, by intro w hSw; go_simp; first | done | with_reducible rfl⟩) hH ?_
                      simp only [List.getElem_toArray, List.getElem_cons_succ, List.getElem_cons_zero, Act.put, List.setIfInBounds_toArray, List.set_cons_zero, List.set_cons_succ]
                      refine wpAnyH_take (i := 28) (v := ?_) rfl (by kernel_rfl) (by kernel_rfl) (by kernel_rfl) (fun _ _ _ h => h) (Or.inl ⟨by rfl, by intro w hSw; go_simp; first | done | with_reducible rfl⟩) hH ?_
                      simp only [List.getElem_toArray, List.getElem_cons_succ, List.getElem_cons_zero, Act.put, List.setIfInBounds_toArray, List.set_cons_zero, List.set_cons_succ]
                      refine wpAnyH_done (by kernel_rfl) ?_ _
                      clear hH hSv
                      have hbw2 := Lib.hid (hbw.out.trans (hbD.out.mono hbw.out.size))
                      clear hbD
                      go_wp2_with (fail)
                      exact ⟨⟨k + 1, by omega, by go_num, by rw [hY6.out], hbw2.out⟩, by simp [intOf]; omega⟩
                    exact AllReadyH.nil
                  exact AllReadyH.nil
                exact AllReadyH.nil
              · obtain rfl : k = m.l.length := by omega
                skip
                have hft := Lib.hid (show sOf (T4 ++ tEnts (m.l.take m.l.length)) = FIN from by rw [List.take_length, ← hfin2.out, hFIN.out])
                rw [hft.out]
                clear hbw
                go_wp2_with (fail)
                go_ret2
                exact ⟨rfl, kx.out⟩
set_option maxHeartbeats 4000000 in
theorem rtxt_any (m : Mg) (A : Option Addr) (c : Nat) (w : World) (hL : Ldr w) (hE : ES w A m.l.length m.l) (hn : m.l.length ≤ 70368744177664) :
    Calls Tryz.prog 23 #[.agg #[.int .i64 m.k, .int .i64 m.fr, .int .i64 m.tt, .int .i64 m.ro, .int .i64 m.no, .int .i64 m.sl, .int .i64 m.nu, .string (sOf m.v), .slice A m.l.length c]] w fun e w' => e = .returned (.tuple #[.string (sOf (txtM m)), .int .i64 (encE m)]) ∧ Below w.heap.size w w' := by
  by_cases h0 : encE m = 0
  · obtain ⟨harg, hl, -⟩ := encE_ok h0
    have hf := fit_of harg hl
    have hd := hf.hd
    simp only [headOK, decide_eq_true_eq] at hd
    obtain ⟨kk, hkk⟩ : ∃ kk : Nat, m.k = (kk : Int) := ⟨m.k.toNat, by omega⟩
    have := rtxt_ok kk m hkk A c w hL hE h0 harg hf
    rw [← hkk] at this
    rw [h0]
    exact this
  · have hck := rchk_any m A c _ (SL.keep hE ((Below.refl _ w).alloc (Nat.le_refl _) (.cells #[.int .i64 m.k, .int .i64 m.fr, .int .i64 m.tt, .int .i64 m.ro, .int .i64 m.no, .int .i64 m.sl, .int .i64 m.nu, .string (sOf m.v), .slice A m.l.length c] 28))) hn
    have ht : txtM m = [] := by unfold txtM; rw [if_neg h0]
    rw [ht]
    have hzb : (encE m == 0) = false := by simp [h0]
    have kb := Lib.hid ((Below.refl _ w).alloc (Nat.le_refl _) (.cells #[.int .i64 m.k, .int .i64 m.fr, .int .i64 m.tt, .int .i64 m.ro, .int .i64 m.no, .int .i64 m.sl, .int .i64 m.nu, .string (sOf m.v), .slice A m.l.length c] 28))
    generalize encE m = z at *
    replace hck := Lib.hid hck; replace hE := Lib.hid hE
    clear ht
    go_enter Tryz.func23, Tryz.ntmps23
    go_wp2_with (fail)
    refine hck.out.mono ?_
    rintro e W1 ⟨rfl, b1⟩
    have kb1 := Lib.hid (kb.out.trans (b1.mono kb.out.size))
    clear b1
    go_wp2_with (fail)
    go_ret2
    exact ⟨rfl, kb1.out⟩
end Go.Proofs.YtlinjanflenljaaGreatDoor
