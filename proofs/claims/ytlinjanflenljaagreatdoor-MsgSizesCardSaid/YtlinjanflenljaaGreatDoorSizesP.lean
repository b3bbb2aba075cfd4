/- How long messages are: the bytes of the messages that the law makes. -/
import Derived.Test.YtlinjanflenljaaGreatDoorEnc
import Derived.Test.YtlinjanflenljaaGreatDoorOpenSt
namespace Go.Proofs.YtlinjanflenljaaGreatDoor
open Go.RowKit
set_option linter.unusedSimpArgs false
set_option linter.unusedVariables false
set_option linter.unusedSectionVars false
set_option maxRecDepth 10000
def mVal (v : List UInt8) : Mg := ⟨4, 0, 1, 1, 2, 9, 0, v, []⟩
def entsF : Nat → List (List UInt8) → List Ent
  | _, [] => []
  | i, v :: l => ⟨i, 1, 2, v⟩ :: entsF (i + 1) l
def mLst (l : List (List UInt8)) : Mg := ⟨2, 0, 1, 1, 2, 0, 0, [], entsF 0 l⟩
def sumL : List (List UInt8) → Nat
  | [] => 0
  | v :: l => (4 + v.length) + sumL l
theorem entsF_len : ∀ (i : Nat) (l : List (List UInt8)), (entsF i l).length = l.length
  | _, [] => rfl
  | i, v :: l => by simp [entsF, entsF_len (i + 1) l]
theorem entsF_snoc (x : List UInt8) : ∀ (i : Nat) (l : List (List UInt8)), entsF i (l ++ [x]) = entsF i l ++ [⟨((i + l.length : Nat) : Int), 1, 2, x⟩]
  | i, [] => by simp [entsF]
  | i, v :: l => by
    have := entsF_snoc x (i + 1) l
    simp only [List.cons_append, entsF, this, List.length_cons]
    rw [show i + 1 + l.length = i + (l.length + 1) from by omega]
theorem sumL_snoc (x : List UInt8) : ∀ l : List (List UInt8), sumL (l ++ [x]) = sumL l + (4 + x.length)
  | [] => by simp [sumL]
  | v :: l => by simp only [List.cons_append, sumL, sumL_snoc x l]; omega
theorem sumL_le : ∀ l : List (List UInt8), (∀ v ∈ l, v.length ≤ 100) → sumL l ≤ 104 * l.length
  | [], _ => by simp [sumL]
  | v :: l, h => by
    have h1 := h v (by simp)
    have h2 := sumL_le l (fun u hu => h u (by simp [hu]))
    simp only [sumL, List.length_cons]; omega
theorem entsF_ok : ∀ (i : Nat) (p : Int) (l : List (List UInt8)), p < i → i + l.length ≤ 4096 → okL p (entsF i l) = true
  | _, _, [], _, _ => rfl
  | i, p, v :: l, hp, hl => by
    simp only [List.length_cons] at hl
    have h2 := entsF_ok (i + 1) (i : Int) l (by omega) (by omega)
    simp only [entsF, okL, h2, Bool.and_true]
    simp only [okEnt, goodB, Bool.and_eq_true, decide_eq_true_eq]
    omega
theorem entsF_mem : ∀ (i : Nat) (l : List (List UInt8)) (e : Ent), e ∈ entsF i l → e.v ∈ l
  | _, [], e, h => by simp [entsF] at h
  | i, v :: l, e, h => by
    simp only [entsF, List.mem_cons] at h ⊢
    rcases h with rfl | h
    · exact .inl rfl
    · exact .inr (entsF_mem (i + 1) l e h)
theorem entsF_bytes : ∀ (i : Nat) (l : List (List UInt8)), i + l.length ≤ 100 → (∀ v ∈ l, v.length ≤ 100) → (bEnts (entsF i l)).length = sumL l
  | _, [], _, _ => rfl
  | i, v :: l, hl, h => by
    simp only [List.length_cons] at hl
    have h1 := h v (by simp)
    have h2 := entsF_bytes (i + 1) l (by omega) (fun u hu => h u (by simp [hu]))
    simp only [entsF, bEnts, bEnt, List.length_append, h2, sumL]
    rw [enc_lt (by simp only [Int.toNat_natCast]; omega), enc_lt (by decide), enc_lt (by decide), enc_lt (by omega)]
    simp
theorem mVal_len (v : List UInt8) (h : v.length ≤ 100) : (bytesM (mVal v)).length = 7 + v.length := by
  have e1 : bytesM (mVal v) = [4, 0, 1, 1, 2, 9] ++ (enc v.length ++ v) := by
    simp only [bytesM, bHead, bB, bS, bN, bV, bL, mVal]
    rw [enc_lt (n := v.length) (by omega)]
    rw [show enc (4 : Int).toNat = [4] from by rw [enc_lt (by decide)]; rfl, show enc (0 : Int).toNat = [0] from by rw [enc_lt (by decide)]; rfl, show enc (1 : Int).toNat = [1] from by rw [enc_lt (by decide)]; rfl, show enc (2 : Int).toNat = [2] from by rw [enc_lt (by decide)]; rfl, show enc (9 : Int).toNat = [9] from by rw [enc_lt (by decide)]; rfl]
    simp [uB, uS, uN, uV, uL]
  rw [e1, enc_lt (by omega)]
  simp; omega
theorem mLst_len (l : List (List UInt8)) (hn : l.length ≤ 20) (h : ∀ v ∈ l, v.length ≤ 100) : (bytesM (mLst l)).length = 7 + sumL l := by
  have e1 : bytesM (mLst l) = [2, 0, 1, 1, 2, 0] ++ (enc (entsF 0 l).length ++ bEnts (entsF 0 l)) := by
    simp only [bytesM, bHead, bB, bS, bN, bV, bL, mLst]
    rw [show enc (0 : Int).toNat = [0] from by rw [enc_lt (by decide)]; rfl, show enc (1 : Int).toNat = [1] from by rw [enc_lt (by decide)]; rfl, show enc (2 : Int).toNat = [2] from by rw [enc_lt (by decide)]; rfl]
    simp [uB, uS, uN, uV, uL]
  rw [e1, List.length_append, List.length_append, entsF_bytes 0 l (by omega) h, entsF_len, enc_lt (by omega)]
  simp; omega
theorem mVal_ok (v : List UInt8) (h : v.length ≤ 100) : encE (mVal v) = 0 := by
  have ha : argOK (mVal v) = true := by simp [argOK, headOK, fB, fS, fN, fV, fL, mVal, uB, uS, uN, uV, uL, goodB, kSl]
  refine enc_fine ha ?_ ?_
  · intro q
    unfold longM mVal at q
    simp only [List.any_nil, Bool.or_false, decide_eq_true_eq] at q
    omega
  · have := mVal_len v h; omega
theorem mLst_ok (l : List (List UInt8)) (hn : l.length ≤ 20) (h : ∀ v ∈ l, v.length ≤ 100) : encE (mLst l) = 0 := by
  have ho := entsF_ok 0 (-1) l (by omega) (by omega)
  have ha : argOK (mLst l) = true := by simp [argOK, headOK, fB, fS, fN, fV, fL, mLst, uB, uS, uN, uV, uL, goodB, kLo, kHi, ho]
  refine enc_fine ha ?_ ?_
  · intro q
    unfold longM mLst at q
    simp only [Bool.or_eq_true, List.any_eq_true, decide_eq_true_eq, List.length_nil] at q
    rcases q with q | ⟨e, he, q⟩
    · omega
    · have := h _ (entsF_mem 0 l e he); omega
  · have := mLst_len l hn h; have := sumL_le l h; omega
theorem enc_val (v : List UInt8) (hv : v.length ≤ 100) (w : World) (hL : Ldr w) : Calls Tryz.prog 17 #[.agg #[.int .i64 4, .int .i64 0, .int .i64 1, .int .i64 1, .int .i64 2, .int .i64 9, .int .i64 0, .string (sOf v), .slice none 0 0]] w fun e w' => ∃ A' c', e = .returned (.tuple #[.slice A' (7 + v.length) c', .int .i64 0]) ∧ Below w.heap.size w w' := by
  refine (enc_any (mVal v) none 0 w hL (SL.nil _ _) (Nat.zero_le _)).mono ?_
  rintro e w' ⟨A', c', rfl, hb⟩
  have h0 := mVal_ok v hv
  refine ⟨A', c', ?_, hb.2⟩
  rw [h0, show encB (mVal v) = bytesM (mVal v) from by unfold encB; rw [if_pos h0], mVal_len v hv]
theorem enc_lst (l : List (List UInt8)) (hn : l.length ≤ 20) (h : ∀ v ∈ l, v.length ≤ 100) {A : Option Addr} {n c : Nat} (hl : l.length = n) (w : World) (hL : Ldr w) (hE : ES w A n (entsF 0 l)) : Calls Tryz.prog 17 #[.agg #[.int .i64 2, .int .i64 0, .int .i64 1, .int .i64 1, .int .i64 2, .int .i64 0, .int .i64 0, .string ⟨#[]⟩, .slice A n c]] w fun e w' => ∃ A' c', e = .returned (.tuple #[.slice A' (7 + sumL l) c', .int .i64 0]) ∧ Below w.heap.size w w' := by
  have hel : (mLst l).l.length = n := by show (entsF 0 l).length = n; rw [entsF_len, hl]
  have hc := enc_any (mLst l) A c w hL (by rw [hel]; exact hE) (by rw [hel]; omega)
  rw [hel] at hc
  refine hc.mono ?_
  rintro e w' ⟨A', c', rfl, hb⟩
  have h0 := mLst_ok l hn h
  refine ⟨A', c', ?_, hb.2⟩
  rw [h0, show encB (mLst l) = bytesM (mLst l) from by unfold encB; rw [if_pos h0], mLst_len l hn h]
end Go.Proofs.YtlinjanflenljaaGreatDoor
