/- MsgKnown's messages: plain. -/
import Derived.Test.YtlinjanflenljaaGreatDoorMWorks
import Derived.Test.YtlinjanflenljaaGreatDoorEqM
namespace Go.Proofs.YtlinjanflenljaaGreatDoor
open Go.RowKit
set_option linter.unusedSimpArgs false
set_option linter.unusedVariables false
set_option linter.unusedSectionVars false
set_option maxRecDepth 10000
def gM : Nat → Mg
  | 0 => ⟨1, 55, 0, 2, 1, 4096, 0, [], []⟩
  | 1 => ⟨2, 0, 55, 2, 1, 0, 4096, [], [⟨4095, 2, 1, []⟩]⟩
  | 2 => ⟨3, 0, 1, 1073741824, 6, 0, 0, [], []⟩
  | 3 => ⟨4, 0, 1, 2, 1, 4095, 0, [], []⟩
  | 4 => ⟨5, 0, 1, 2, 1, 4095, 0, [], []⟩
  | 5 => ⟨6, 0, 1, 0, 0, 4095, 0, [], []⟩
  | 6 => ⟨7, 0, 1, 2, 1, 0, 4096, [], []⟩
  | 7 => ⟨8, 0, 1, 0, 0, 4096, 0, [], []⟩
  | 8 => ⟨9, 0, 1, 0, 0, 0, 4096, [], []⟩
  | 9 => ⟨10, 0, 1, 0, 0, 0, 2147483647, [], []⟩
  | 10 => ⟨11, 0, 1, 0, 0, 0, 1, [], []⟩
  | _ => zeroMg
def bM : Nat → Mg
  | 0 => ⟨0, 0, 0, 0, 0, 0, 0, [], []⟩
  | 1 => ⟨1, 0, 1, 2, 1, 4097, 0, [], []⟩
  | 2 => ⟨1, 0, 1, 0, 0, 0, 0, [], []⟩
  | 3 => ⟨2, 0, 1, 2, 1, 0, 0, [], [⟨1, 2, 1, []⟩, ⟨1, 2, 1, []⟩]⟩
  | 4 => ⟨2, 0, 1, 2, 1, 0, 0, [], [⟨0, 0, 0, []⟩]⟩
  | 5 => ⟨3, 0, 1, 1, 7, 0, 0, [], []⟩
  | 6 => ⟨4, 0, 1, 2, 1, 4096, 0, [], []⟩
  | 7 => ⟨6, 0, 1, 2, 1, 0, 0, [], []⟩
  | 8 => ⟨8, 0, 1, 0, 0, 0, 1, [], []⟩
  | 9 => ⟨9, 0, 1, 0, 0, 0, 0, [], []⟩
  | 10 => ⟨10, 0, 1, 0, 0, 0, 0, [], []⟩
  | 11 => ⟨11, 0, 1, 0, 0, 0, 2147483648, [], []⟩
  | 12 => ⟨3, 3, 3, 2, 1, 0, 0, [], []⟩
  | 13 => ⟨3, -1, 0, 2, 1, 0, 0, [], []⟩
  | _ => zeroMg

theorem lt11 {j : Nat} (h : j < 11) : j = 0 ∨ j = 1 ∨ j = 2 ∨ j = 3 ∨ j = 4 ∨ j = 5 ∨ j = 6 ∨ j = 7 ∨ j = 8 ∨ j = 9 ∨ j = 10 := by omega
theorem lt14 {j : Nat} (h : j < 14) : j = 0 ∨ j = 1 ∨ j = 2 ∨ j = 3 ∨ j = 4 ∨ j = 5 ∨ j = 6 ∨ j = 7 ∨ j = 8 ∨ j = 9 ∨ j = 10 ∨ j = 11 ∨ j = 12 ∨ j = 13 := by omega
theorem gM_arg {j : Nat} (h : j < 11) : argOK (gM j) = true := by rcases lt11 h with rfl | rfl | rfl | rfl | rfl | rfl | rfl | rfl | rfl | rfl | rfl <;> decide
theorem gM_v {j : Nat} (h : j < 11) : (gM j).v = [] := by rcases lt11 h with rfl | rfl | rfl | rfl | rfl | rfl | rfl | rfl | rfl | rfl | rfl <;> rfl
theorem gM_px {j : Nat} (h : j < 11) : pxB (gM j).k = decide (j < 9) := by rcases lt11 h with rfl | rfl | rfl | rfl | rfl | rfl | rfl | rfl | rfl | rfl | rfl <;> decide
theorem gM_len {j : Nat} (h : j < 11) : (gM j).l.length ≤ 1 := by rcases lt11 h with rfl | rfl | rfl | rfl | rfl | rfl | rfl | rfl | rfl | rfl | rfl <;> decide
theorem gM_short {j : Nat} (h : j < 11) : longM (gM j) = false := by rcases lt11 h with rfl | rfl | rfl | rfl | rfl | rfl | rfl | rfl | rfl | rfl | rfl <;> decide
theorem bM_bad {j : Nat} (h : j < 14) : encE (bM j) = 2 := enc_arg (by rcases lt14 h with rfl | rfl | rfl | rfl | rfl | rfl | rfl | rfl | rfl | rfl | rfl | rfl | rfl | rfl <;> decide)
theorem bM_len {j : Nat} (h : j < 14) : (bM j).l.length ≤ 2 := by rcases lt14 h with rfl | rfl | rfl | rfl | rfl | rfl | rfl | rfl | rfl | rfl | rfl | rfl | rfl | rfl <;> decide

theorem enc10 (n : Nat) (h : n < 18446744073709551616) : (enc n).length ≤ 10 := enc_len h
theorem bEnts_le : ∀ (l : List Ent) (k : Nat), (∀ e ∈ l, (bEnt e).length ≤ k) → (bEnts l).length ≤ l.length * k
  | [], _, _ => by simp [bEnts]
  | e :: l, k, h => by
    have h1 := h e (List.mem_cons_self ..)
    have h2 := bEnts_le l k fun x hx => h x (List.mem_cons_of_mem _ hx)
    rw [bEnts, List.length_append, List.length_cons, Nat.add_mul, Nat.one_mul]
    omega
theorem bytes_le (m : Mg) (k : Nat) (hk : m.k.toNat < 2 ^ 63) (hf : m.fr.toNat < 2 ^ 63) (ht : m.tt.toNat < 2 ^ 63) (hr : m.ro.toNat < 2 ^ 63) (hn : m.no.toNat < 2 ^ 63) (hs : m.sl.toNat < 2 ^ 63) (hu : m.nu.toNat < 2 ^ 63) (hv : m.v = []) (hl : m.l.length < 100) (he : ∀ e ∈ m.l, (bEnt e).length ≤ k) : (bytesM m).length ≤ 100 + m.l.length * k := by
  have a1 := enc10 m.k.toNat (by omega)
  have a2 := enc10 m.fr.toNat (by omega)
  have a3 := enc10 m.tt.toNat (by omega)
  have a4 := enc10 m.ro.toNat (by omega)
  have a5 := enc10 m.no.toNat (by omega)
  have a6 := enc10 m.sl.toNat (by omega)
  have a7 := enc10 m.nu.toNat (by omega)
  have a8 := enc10 m.l.length (by omega)
  have a9 := enc10 m.v.length (by rw [hv]; decide)
  have b := bEnts_le m.l k he
  have cB : (bB m).length ≤ 20 := by unfold bB; split <;> simp <;> omega
  have cS : (bS m).length ≤ 10 := by unfold bS; split <;> first | exact a6 | exact Nat.zero_le _
  have cN : (bN m).length ≤ 10 := by unfold bN; split <;> first | exact a7 | exact Nat.zero_le _
  have cV : (bV m).length ≤ 10 := by unfold bV; rw [hv] at a9 ⊢; split <;> simp <;> (simp at a9; omega)
  have cL : (bL m).length ≤ 10 + m.l.length * k := by unfold bL; split <;> simp <;> omega
  unfold bytesM bHead
  simp only [List.length_append]
  omega
theorem bEnt_len0 (e : Ent) (h1 : e.sl.toNat < 2 ^ 63) (h2 : e.ro.toNat < 2 ^ 63) (h3 : e.no.toNat < 2 ^ 63) (h4 : e.v = []) : (bEnt e).length ≤ 40 := by
  have a1 := enc10 e.sl.toNat (by omega)
  have a2 := enc10 e.ro.toNat (by omega)
  have a3 := enc10 e.no.toNat (by omega)
  have a4 := enc10 e.v.length (by rw [h4]; decide)
  unfold bEnt
  simp only [List.length_append, h4, List.length_nil] at a4 ⊢
  omega
theorem gM_enc {j : Nat} (h : j < 11) : encE (gM j) = 0 := by
  refine enc_fine (gM_arg h) (by rw [gM_short h]; decide) ?_
  have hb : (bytesM (gM j)).length ≤ 100 + (gM j).l.length * 40 := by
    rcases lt11 h with rfl | rfl | rfl | rfl | rfl | rfl | rfl | rfl | rfl | rfl | rfl
    all_goals exact bytes_le _ 40 (by decide) (by decide) (by decide) (by decide) (by decide) (by decide) (by decide) rfl (by decide) (fun e he => by simp [gM] at he <;> (subst he; exact bEnt_len0 _ (by decide) (by decide) (by decide) rfl))
  have := gM_len h
  omega
/-! The two that are spelled out. -/
def kA : Mg := ⟨4, 1, 0, 2, 1, 7, 0, [], []⟩
def kB : Mg := ⟨7, 1, 0, 2, 1, 0, 300, [], []⟩
theorem e300 : enc 300 = [172, 2] := by rw [enc_ge (by omega), enc_lt (by omega)]; rfl
theorem kB_bytes : bytesM kB = [7, 1, 0, 2, 1, 172, 2] := by
  simp [bytesM, bHead, bB, bS, bN, bV, bL, uB, uS, uN, uV, uL, kB, enc_lt, e300]
theorem kA_bytes : bytesM kA = [4, 1, 0, 2, 1, 7, 0] := by
  simp [bytesM, bHead, bB, bS, bN, bV, bL, uB, uS, uN, uV, uL, kA, enc_lt]
theorem kA_enc : encE kA = 0 := enc_fine (by decide) (by decide) (by rw [kA_bytes]; decide)
theorem kB_enc : encE kB = 0 := enc_fine (by decide) (by decide) (by rw [kB_bytes]; decide)
theorem kB_encB : encB kB = [7, 1, 0, 2, 1, 172, 2] := by unfold encB; rw [if_pos kB_enc, kB_bytes]
theorem kA_text : txtM kA = [49, 62, 48, 32, 97, 99, 99, 101, 112, 116, 32, 50, 46, 49, 32, 55, 32, 48, 35, 48, 48, 48, 48, 48, 48, 48, 48] := by
  unfold txtM
  rw [if_pos kA_enc]
  have e : wordM 4 = [97, 99, 99, 101, 112, 116] := rfl
  have d0 : Lib.decDigits 0 = [48] := Lib.decDigits_one (by omega)
  have d1 : Lib.decDigits 1 = [49] := Lib.decDigits_one (by omega)
  have d2 : Lib.decDigits 2 = [50] := Lib.decDigits_one (by omega)
  have d7 : Lib.decDigits 7 = [55] := Lib.decDigits_one (by omega)
  have hx : hex8 (crcN []) = [48, 48, 48, 48, 48, 48, 48, 48] := by decide
  simp [textM, tHead, tB, tS, tN, tV, tL, uB, uS, uN, uV, uL, kA, txt, someV, e, d0, d1, d2, d7, hx]
/-! Many entries. -/
def mkE (v : List UInt8) : Nat → Nat → List Ent
  | _, 0 => []
  | a, n + 1 => ⟨a, 2, 1, v⟩ :: mkE v (a + 1) n
theorem mkE_len (v : List UInt8) : ∀ n a, (mkE v a n).length = n
  | 0, _ => rfl
  | n + 1, a => by rw [mkE, List.length_cons, mkE_len v n]
theorem mkE_snoc (v : List UInt8) : ∀ n a, mkE v a (n + 1) = mkE v a n ++ [⟨((a + n : Nat) : Int), 2, 1, v⟩]
  | 0, a => by simp [mkE]
  | n + 1, a => by
    rw [mkE, mkE_snoc v n (a + 1)]
    show _ = (⟨a, 2, 1, v⟩ :: mkE v (a + 1) n) ++ _
    rw [List.cons_append, show a + 1 + n = a + (n + 1) from by omega]
theorem mkE_take (v : List UInt8) : ∀ (m n a : Nat), m ≤ n → (mkE v a n).take m = mkE v a m
  | 0, n, a, _ => by simp [mkE]
  | m + 1, 0, a, h => by omega
  | m + 1, n + 1, a, h => by rw [mkE, mkE, List.take_succ_cons, mkE_take v m n (a + 1) (by omega)]
theorem mkE_ok (v : List UInt8) : ∀ (n a : Nat) (p : Int), p < a → a + n ≤ 4096 → okL p (mkE v a n) = true
  | 0, _, _, _, _ => rfl
  | n + 1, a, p, hp, hn => by
    rw [mkE, okL, mkE_ok v n (a + 1) a (by omega) (by omega)]
    have h1 : okEnt p ⟨a, 2, 1, v⟩ = true := by unfold okEnt goodB; simp; omega
    rw [h1]; rfl
theorem mkE_mem {v : List UInt8} : ∀ {n a : Nat} {e : Ent}, e ∈ mkE v a n → ∃ i, a ≤ i ∧ i < a + n ∧ e = ⟨i, 2, 1, v⟩
  | 0, _, _, h => by cases h
  | n + 1, a, e, h => by
    rcases List.mem_cons.1 h with rfl | h
    · exact ⟨a, Nat.le_refl _, by omega, rfl⟩
    · obtain ⟨i, h1, h2, h3⟩ := mkE_mem h
      exact ⟨i, by omega, by omega, h3⟩
theorem e65536 : (enc 65536).length = 3 := by rw [enc_ge (by omega), enc_ge (by omega), enc_lt (by omega)]; rfl
theorem bEnt_mk {v : List UInt8} (hv : v.length = 65536) {i : Nat} (h : i < 16) : (bEnt ⟨i, 2, 1, v⟩).length = 65542 := by
  unfold bEnt
  simp only [List.length_append, hv, e65536]
  rw [show ((i : Int)).toNat = i from rfl, enc_lt (show i < 128 by omega), show (2 : Int).toNat = 2 from rfl, show (1 : Int).toNat = 1 from rfl, enc_lt (show 2 < 128 by omega), enc_lt (show 1 < 128 by omega)]
  rfl
theorem bEnts_mk {v : List UInt8} (hv : v.length = 65536) : ∀ n a, a + n ≤ 16 → (bEnts (mkE v a n)).length = n * 65542
  | 0, _, _ => by simp [mkE, bEnts]
  | n + 1, a, h => by rw [mkE, bEnts, List.length_append, bEnt_mk hv (by omega), bEnts_mk hv n (a + 1) (by omega)]; omega
def mMany (v : List UInt8) (n : Nat) : Mg := ⟨2, 0, 1, 2, 1, 0, 0, [], mkE v 0 n⟩
theorem many_arg (v : List UInt8) (n : Nat) (hn : n ≤ 16) : argOK (mMany v n) = true := by
  have h := mkE_ok v n 0 (-1) (by omega) (by omega)
  unfold argOK
  rw [show fL (mMany v n) = okL (-1) (mkE v 0 n) from rfl, h]
  rfl
theorem many_short {v : List UInt8} (hv : v.length = 65536) (n : Nat) : ¬ longM (mMany v n) = true := by
  unfold longM
  simp only [Bool.or_eq_true, decide_eq_true_eq, List.any_eq_true, not_or, not_exists]
  refine ⟨by show ¬ 65536 < ([] : List UInt8).length; decide, fun e he => ?_⟩
  obtain ⟨i, -, -, rfl⟩ := mkE_mem he.1
  have h2 : 65536 < v.length := he.2
  omega
theorem many_len {v : List UInt8} (hv : v.length = 65536) (n : Nat) (h : n ≤ 16) : (bytesM (mMany v n)).length = 7 + n * 65542 := by
  have hb := bEnts_mk hv n 0 (by omega)
  have hl := mkE_len v n 0
  unfold bytesM bHead bB bS bN bV bL
  rw [show uB (mMany v n).k = true from rfl, show uS (mMany v n).k = false from rfl, show uN (mMany v n).k = true from rfl, show uV (mMany v n).k = false from rfl, show uL (mMany v n).k = true from rfl]
  simp only [if_true, List.length_append, Bool.false_eq_true, if_false, List.length_nil]
  rw [show (mMany v n).l = mkE v 0 n from rfl, hb, hl, show (mMany v n).k.toNat = 2 from rfl, show (mMany v n).fr.toNat = 0 from rfl, show (mMany v n).tt.toNat = 1 from rfl, show (mMany v n).ro.toNat = 2 from rfl, show (mMany v n).no.toNat = 1 from rfl, show (mMany v n).nu.toNat = 0 from rfl, enc_lt (show 2 < 128 by omega), enc_lt (show 0 < 128 by omega), enc_lt (show 1 < 128 by omega), enc_lt (show n < 128 by omega)]
  simp only [List.length_cons, List.length_nil]
  omega
theorem many_15 {v : List UInt8} (hv : v.length = 65536) : encE (mMany v 15) = 0 := enc_fine (many_arg v 15 (by omega)) (many_short hv 15) (by rw [many_len hv 15 (by omega)]; omega)
theorem many_16 {v : List UInt8} (hv : v.length = 65536) : encE (mMany v 16) = 11 := enc_big (many_arg v 16 (by omega)) (by rw [many_len hv 16 (by omega)]; omega)
theorem val_long {v : List UInt8} (hv : v.length = 65537) : encE ⟨4, 0, 1, 2, 1, 0, 0, v, []⟩ = 11 := enc_long (by unfold argOK; rfl) (by unfold longM; rw [hv]; rfl)
theorem val_arg (v : List UInt8) : encE ⟨4, 0, 1, 0, 0, 0, 0, v, []⟩ = 2 := enc_arg (by unfold argOK; rfl)
theorem one_long {v : List UInt8} (hv : v.length = 65537) : encE ⟨2, 0, 1, 2, 1, 0, 0, [], [⟨0, 2, 1, v⟩]⟩ = 11 := enc_long (by unfold argOK; rfl) (by unfold longM; simp [hv])
/-! Zeros. -/
theorem dec_zeros (n : Nat) (h : 0 < n) (h2 : n ≤ 1048576) : decM (List.replicate n 0) = (zeroMg, 10) := by
  refine dec_noK (by rw [List.length_replicate]; exact h2) ?_
  obtain ⟨m, rfl⟩ : ∃ m, n = m + 1 := ⟨n - 1, by omega⟩
  have hd : dec (List.replicate (m + 1) (0 : UInt8)) = some (0, 1) := by
    have := dec_enc (n := 0) (by omega) (List.replicate m 0)
    rw [enc_lt (by omega)] at this
    exact this
  unfold kOf pSm rdU
  simp only [hd]
  rw [if_neg (show ¬ 2147483647 < 0 by decide)]
  show inK 0 = false
  decide
theorem dec_zeros_big (n : Nat) (h : 1048576 < n) : decM (List.replicate n 0) = (zeroMg, 11) := dec_big (by rw [List.length_replicate]; exact h)
theorem dec_nil' : decM [] = (zeroMg, 10) := dec_noK (by decide) (by decide)
end Go.Proofs.YtlinjanflenljaaGreatDoor
