/- Messages as plain data: which are valid, their bytes, and what is read from bytes. No program in sight. -/
import Derived.Test.YtlinjanflenljaaGreatDoorWPl
import Derived.Test.YtlinjanflenljaaGreatDoorBPl
import Derived.Lib.Join
namespace Go.Proofs.YtlinjanflenljaaGreatDoor
set_option linter.unusedSimpArgs false
set_option linter.unusedVariables false
/-- An entry of a list. -/
structure Ent where
  sl : Int
  ro : Int
  no : Int
  v : List UInt8
/-- A message. -/
structure Mg where
  k : Int
  fr : Int
  tt : Int
  ro : Int
  no : Int
  sl : Int
  nu : Int
  v : List UInt8
  l : List Ent
def zeroMg : Mg := ⟨0, 0, 0, 0, 0, 0, 0, [], []⟩
instance : DecidableEq Ent := fun a b => decidable_of_iff (a.sl = b.sl ∧ a.ro = b.ro ∧ a.no = b.no ∧ a.v = b.v) ⟨by rintro ⟨h1, h2, h3, h4⟩; cases a; cases b; simp_all, by rintro rfl; exact ⟨rfl, rfl, rfl, rfl⟩⟩
instance : DecidableEq Mg := fun a b => decidable_of_iff (a.k = b.k ∧ a.fr = b.fr ∧ a.tt = b.tt ∧ a.ro = b.ro ∧ a.no = b.no ∧ a.sl = b.sl ∧ a.nu = b.nu ∧ a.v = b.v ∧ a.l = b.l) ⟨by rintro ⟨h1, h2, h3, h4, h5, h6, h7, h8, h9⟩; cases a; cases b; simp_all, by rintro rfl; exact ⟨rfl, rfl, rfl, rfl, rfl, rfl, rfl, rfl, rfl⟩⟩
/-! ### The kinds -/
def uB (k : Int) : Bool := decide (k = 1 ∨ k = 2 ∨ k = 3 ∨ k = 4 ∨ k = 5 ∨ k = 7)
def uS (k : Int) : Bool := decide (k = 1 ∨ k = 4 ∨ k = 5 ∨ k = 6 ∨ k = 8)
def uN (k : Int) : Bool := decide (k = 2 ∨ k = 7 ∨ k = 9 ∨ k = 10 ∨ k = 11)
def uV (k : Int) : Bool := decide (k = 4 ∨ k = 6 ∨ k = 9 ∨ k = 10 ∨ k = 11)
def uL (k : Int) : Bool := decide (k = 2)
def kSl (k : Int) : Int := if k = 1 ∨ k = 8 then 4096 else if k = 4 ∨ k = 5 ∨ k = 6 then 4095 else 0
def kLo (k : Int) : Int := if k = 9 ∨ k = 10 ∨ k = 11 then 1 else 0
def kHi (k : Int) : Int := if k = 2 ∨ k = 7 ∨ k = 9 then 4096 else if k = 10 ∨ k = 11 then 2147483647 else 0
def inK (k : Int) : Bool := decide (1 ≤ k ∧ k ≤ 11)
/-! ### Which messages are valid -/
def goodB (r n : Int) : Bool := decide (1 ≤ r ∧ r ≤ 1073741824 ∧ 0 ≤ n ∧ n < 7)
def okEnt (p : Int) (e : Ent) : Bool := decide (0 ≤ e.sl ∧ e.sl < 4096 ∧ p < e.sl) && goodB e.ro e.no
def okL : Int → List Ent → Bool
  | _, [] => true
  | p, e :: l => okEnt p e && okL e.sl l
def headOK (m : Mg) : Bool := decide (1 ≤ m.k ∧ m.k ≤ 11 ∧ 0 ≤ m.fr ∧ m.fr ≤ 55 ∧ 0 ≤ m.tt ∧ m.tt ≤ 55 ∧ m.fr ≠ m.tt)
def fB (m : Mg) : Bool := if uB m.k = true then goodB m.ro m.no else decide (m.ro = 0 ∧ m.no = 0)
def fS (m : Mg) : Bool := if uS m.k = true then decide (0 ≤ m.sl ∧ m.sl ≤ kSl m.k) else decide (m.sl = 0)
def fN (m : Mg) : Bool := if uN m.k = true then decide (kLo m.k ≤ m.nu ∧ m.nu ≤ kHi m.k) else decide (m.nu = 0)
def fV (m : Mg) : Bool := if uV m.k = true then true else decide (m.v = [])
def fL (m : Mg) : Bool := if uL m.k = true then okL (-1) m.l else decide (m.l = [])
def argOK (m : Mg) : Bool := headOK m && fB m && fS m && fN m && fV m && fL m
def longM (m : Mg) : Bool := decide (65536 < m.v.length) || m.l.any fun e => decide (65536 < e.v.length)
/-! ### The bytes -/
def bText (v : List UInt8) : List UInt8 := enc v.length ++ v
def bEnt (e : Ent) : List UInt8 := enc e.sl.toNat ++ enc e.ro.toNat ++ enc e.no.toNat ++ enc e.v.length ++ e.v
def bEnts : List Ent → List UInt8
  | [] => []
  | e :: l => bEnt e ++ bEnts l
def bB (m : Mg) : List UInt8 := if uB m.k = true then enc m.ro.toNat ++ enc m.no.toNat else []
def bS (m : Mg) : List UInt8 := if uS m.k = true then enc m.sl.toNat else []
def bN (m : Mg) : List UInt8 := if uN m.k = true then enc m.nu.toNat else []
def bV (m : Mg) : List UInt8 := if uV m.k = true then enc m.v.length ++ m.v else []
def bL (m : Mg) : List UInt8 := if uL m.k = true then enc m.l.length ++ bEnts m.l else []
def bHead (m : Mg) : List UInt8 := enc m.k.toNat ++ enc m.fr.toNat ++ enc m.tt.toNat
def bytesM (m : Mg) : List UInt8 := bHead m ++ bB m ++ bS m ++ bN m ++ bV m ++ bL m
def encE (m : Mg) : Int := if argOK m = true then (if longM m = true ∨ 1048576 < (bytesM m).length then 11 else 0) else 2
def encB (m : Mg) : List UInt8 := if encE m = 0 then bytesM m else []
/-! ### What bytes are read as -/
/-- How a number that has to fit is read. -/
def pSm (s : RS) : Int × RS := if 2147483647 < (rdU s).1 then (0, none) else (((rdU s).1 : Int), (rdU s).2)
def rSm (s : RS) : Int × RS := if 1099511627776 < (rdU s).1 then (-1, (rdU s).2) else (((rdU s).1 : Int), (rdU s).2)
/-- Both of them: what is read from the bytes of a number, and what a number that is not below 0 came from. -/
structure Sm (sm : RS → Int × RS) : Prop where
  back : ∀ (v : Nat) (rest : List UInt8), v ≤ 2147483647 → sm (some (enc v ++ rest)) = ((v : Int), some rest)
  from_ : ∀ (s : RS) (v : Int) (b : List UInt8), sm s = (v, some b) → 0 ≤ v → s = some (enc v.toNat ++ b)
  none_ : (sm none).2 = none
  most : ∀ s, (sm s).1 ≤ 1099511627776
  least : ∀ s, -1 ≤ (sm s).1
  less : ∀ (b : List UInt8), b ≠ [] → (left (sm (some b)).2).length < b.length
  same : ∀ (s : RS), (left (sm s).2).length ≤ (left s).length
theorem rdU_back {v : Nat} (rest : List UInt8) (hv : v < 2 ^ 64) : rdU (some (enc v ++ rest)) = (v, some rest) := by
  simp only [rdU, dec_enc hv rest]
  rw [List.drop_left]
theorem rdU_from {s : RS} {v : Nat} {b : List UInt8} (h : rdU s = (v, some b)) : s = some (enc v ++ b) := by
  cases s with
  | none => simp [rdU] at h
  | some c =>
    simp only [rdU] at h
    cases hd : dec c with
    | none => rw [hd] at h; simp at h
    | some r =>
      obtain ⟨n, k⟩ := r
      rw [hd] at h
      simp only [Prod.mk.injEq, Option.some.injEq] at h
      obtain ⟨rfl, rfl⟩ := h
      have := (dec_sound hd).2.1
      rw [this, List.take_append_drop]
theorem rdU_less (b : List UInt8) (hb : b ≠ []) : (left (rdU (some b)).2).length < b.length := by
  have hl := List.length_pos_iff.2 hb
  simp only [rdU]
  cases hd : dec b with
  | none => simpa [left] using hl
  | some r =>
    obtain ⟨n, k⟩ := r
    have := dec_sound hd
    simp only [left, List.length_drop]
    omega
theorem rdU_same (s : RS) : (left (rdU s).2).length ≤ (left s).length := by
  cases s with
  | none => simp [rdU, left]
  | some b =>
    rcases Classical.em (b = []) with rfl | hb
    · simp [rdU, dec, decGo, left]
    · exact Nat.le_of_lt (rdU_less b hb)
theorem sm_p : Sm pSm := by
  refine ⟨fun v rest hv => ?_, fun s v b h hv => ?_, ?_, fun s => ?_, fun s => ?_, fun b hb => ?_, fun s => ?_⟩
  · unfold pSm
    rw [rdU_back rest (by omega), if_neg (by simp only; omega)]
  · unfold pSm at h
    split at h
    · simp at h
    · simp only [Prod.mk.injEq] at h
      have h1 : rdU s = (v.toNat, some b) := Prod.ext (by show (rdU s).1 = v.toNat; omega) h.2
      exact rdU_from h1
  · unfold pSm; split <;> simp [rdU]
  · unfold pSm; split
    · simp
    · simp only; omega
  · unfold pSm; split
    · simp
    · simp only; omega
  · have := rdU_less b hb
    unfold pSm; split
    · simpa [left] using List.length_pos_iff.2 hb
    · exact this
  · have := rdU_same s
    unfold pSm; split
    · simp [left]
    · exact this
theorem sm_r : Sm rSm := by
  refine ⟨fun v rest hv => ?_, fun s v b h hv => ?_, ?_, fun s => ?_, fun s => ?_, fun b hb => ?_, fun s => ?_⟩
  · unfold rSm
    rw [rdU_back rest (by omega), if_neg (by simp only; omega)]
  · unfold rSm at h
    split at h
    · simp only [Prod.mk.injEq] at h; omega
    · simp only [Prod.mk.injEq] at h
      have h1 : rdU s = (v.toNat, some b) := Prod.ext (by show (rdU s).1 = v.toNat; omega) h.2
      exact rdU_from h1
  · unfold rSm; split <;> simp [rdU]
  · unfold rSm; split
    · simp
    · simp only; omega
  · unfold rSm; split
    · simp
    · simp only; omega
  · have := rdU_less b hb
    unfold rSm; split <;> exact this
  · have := rdU_same s
    unfold rSm; split <;> exact this
theorem rdT_back (v rest : List UInt8) (hv : v.length ≤ 65536) : rdT (some (enc v.length ++ (v ++ rest))) = (v, some rest) := by
  unfold rdT
  rw [rdU_back _ (by omega)]
  simp only
  rw [if_neg (by simp; omega)]
  simp
theorem rdT_from {s : RS} {v b : List UInt8} (h : rdT s = (v, some b)) : s = some (enc v.length ++ v ++ b) ∧ v.length ≤ 65536 := by
  unfold rdT at h
  cases hu : rdU s with
  | mk n s' =>
    rw [hu] at h
    cases s' with
    | none => simp at h
    | some c =>
      simp only at h
      split at h
      · simp at h
      · rename_i hn
        simp only [Prod.mk.injEq, Option.some.injEq] at h
        obtain ⟨rfl, rfl⟩ := h
        have hl : (c.take n).length = n := by rw [List.length_take]; omega
        rw [hl, rdU_from hu, List.append_assoc, List.take_append_drop]
        exact ⟨rfl, by omega⟩
theorem rdT_same (s : RS) : (left (rdT s).2).length ≤ (left s).length := by
  have h := rdU_same s
  unfold rdT
  cases hu : rdU s with
  | mk n s' =>
    rw [hu] at h
    cases s' with
    | none => simp [left]
    | some c =>
      simp only
      split
      · simp [left]
      · simp only [left, List.length_drop] at h ⊢; omega
theorem rdT_none : rdT none = ([], none) := rfl
theorem rdT_len (s : RS) : (rdT s).1.length ≤ 65536 := by
  unfold rdT
  cases hu : rdU s with
  | mk n s' =>
    cases s' with
    | none => simp
    | some c =>
      simp only
      split
      · simp
      · simp only [List.length_take]; omega
section
variable (sm : RS → Int × RS)
def gE1 (s : RS) : RS := (sm s).2
def gEnt (s : RS) : Ent × RS :=
  (⟨(sm s).1, (sm (sm s).2).1, (sm (sm (sm s).2).2).1, (rdT (sm (sm (sm s).2).2).2).1⟩, (rdT (sm (sm (sm s).2).2).2).2)
def gEnts : Nat → RS → List Ent × RS
  | 0, s => ([], s)
  | n + 1, s => if left s = [] then ([], s) else ((gEnt sm s).1 :: (gEnts n (gEnt sm s).2).1, (gEnts n (gEnt sm s).2).2)
def gB (u : Bool) (s : RS) : Int × Int × RS := if u = true then ((sm s).1, (sm (sm s).2).1, (sm (sm s).2).2) else (0, 0, s)
def gN (u : Bool) (s : RS) : Int × RS := if u = true then sm s else (0, s)
def gV (u : Bool) (s : RS) : List UInt8 × RS := if u = true then rdT s else ([], s)
def gCnt (b : List UInt8) : Int × RS := gN sm (uL (sm (some b)).1) (gV (uV (sm (some b)).1) (gN sm (uN (sm (some b)).1) (gN sm (uS (sm (some b)).1) (gB sm (uB (sm (some b)).1) (sm (sm (sm (some b)).2).2).2).2.2).2).2).2
def gMg (b : List UInt8) : Mg :=
  { k := (sm (some b)).1
    fr := (sm (sm (some b)).2).1
    tt := (sm (sm (sm (some b)).2).2).1
    ro := (gB sm (uB (sm (some b)).1) (sm (sm (sm (some b)).2).2).2).1
    no := (gB sm (uB (sm (some b)).1) (sm (sm (sm (some b)).2).2).2).2.1
    sl := (gN sm (uS (sm (some b)).1) (gB sm (uB (sm (some b)).1) (sm (sm (sm (some b)).2).2).2).2.2).1
    nu := (gN sm (uN (sm (some b)).1) (gN sm (uS (sm (some b)).1) (gB sm (uB (sm (some b)).1) (sm (sm (sm (some b)).2).2).2).2.2).2).1
    v := (gV (uV (sm (some b)).1) (gN sm (uN (sm (some b)).1) (gN sm (uS (sm (some b)).1) (gB sm (uB (sm (some b)).1) (sm (sm (sm (some b)).2).2).2).2.2).2).2).1
    l := (gEnts sm (gCnt sm b).1.toNat (gCnt sm b).2).1 }
def gEnd (b : List UInt8) : RS := (gEnts sm (gCnt sm b).1.toNat (gCnt sm b).2).2
/-- The bytes are those of a message. -/
def gOK (b : List UInt8) : Prop := inK (gMg sm b).k = true ∧ gEnd sm b = some [] ∧ ((gMg sm b).l.length : Int) = (gCnt sm b).1 ∧ encE (gMg sm b) = 0
end
section
variable {sm : RS → Int × RS} (hs : Sm sm)
include hs
theorem gEnts_len : ∀ (n : Nat) (s : RS), (gEnts sm n s).1.length ≤ (left s).length ∧ (gEnts sm n s).1.length ≤ n
  | 0, s => by simp [gEnts]
  | n + 1, s => by
    unfold gEnts
    split
    · simp
    · rename_i hl
      cases s with
      | none => exact absurd rfl hl
      | some b =>
        have h1 := hs.less b hl
        have h2 := hs.same (sm (some b)).2
        have h3 := hs.same (sm (sm (some b)).2).2
        have h4 := rdT_same (sm (sm (sm (some b)).2).2).2
        have := gEnts_len n (gEnt sm (some b)).2
        simp only [List.length_cons]
        have e : (gEnt sm (some b)).2 = (rdT (sm (sm (sm (some b)).2).2).2).2 := rfl
        rw [e] at this ⊢
        have e2 : left (some b) = b := rfl
        rw [e2]
        omega
/-! ### From the bytes back -/
theorem nat_back (x : Int) (rest : List UInt8) (h0 : 0 ≤ x) (h1 : x ≤ 2147483647) : sm (some (enc x.toNat ++ rest)) = (x, some rest) := by
  rw [hs.back _ _ (by omega)]
  congr 1
  omega
theorem ent_back (p : Int) (e : Ent) (rest : List UInt8) (h : okEnt p e = true) (hv : e.v.length ≤ 65536) : gEnt sm (some (bEnt e ++ rest)) = (e, some rest) := by
  obtain ⟨sl, ro, no, v⟩ := e
  simp only [okEnt, goodB, Bool.and_eq_true, decide_eq_true_eq] at h
  simp only at hv
  have e0 : bEnt ⟨sl, ro, no, v⟩ ++ rest = enc sl.toNat ++ (enc ro.toNat ++ (enc no.toNat ++ (enc v.length ++ (v ++ rest)))) := by simp [bEnt, List.append_assoc]
  have h1 := nat_back hs sl (enc ro.toNat ++ (enc no.toNat ++ (enc v.length ++ (v ++ rest)))) (by omega) (by omega)
  have h2 := nat_back hs ro (enc no.toNat ++ (enc v.length ++ (v ++ rest))) (by omega) (by omega)
  have h3 := nat_back hs no (enc v.length ++ (v ++ rest)) (by omega) (by omega)
  have h4 := rdT_back v rest hv
  simp only [gEnt, e0, h1, h2, h3, h4]
theorem ents_back : ∀ (l : List Ent) (p : Int) (rest : List UInt8), okL p l = true → (∀ e ∈ l, e.v.length ≤ 65536) → gEnts sm l.length (some (bEnts l ++ rest)) = (l, some rest)
  | [], p, rest, _, _ => rfl
  | e :: l, p, rest, h, hv => by
    simp only [okL, Bool.and_eq_true] at h
    have e0 : bEnts (e :: l) ++ rest = bEnt e ++ (bEnts l ++ rest) := by simp [bEnts, List.append_assoc]
    have h1 := ent_back hs p e (bEnts l ++ rest) h.1 (hv e (List.mem_cons_self ..))
    have h2 := ents_back l e.sl rest h.2 fun x hx => hv x (List.mem_cons_of_mem _ hx)
    have hne : left (some (bEnt e ++ (bEnts l ++ rest))) ≠ [] := by
      simp only [left, bEnt, List.append_assoc]
      intro h0
      have := congrArg List.length h0
      simp only [List.length_append, List.length_nil] at this
      have := enc_len_pos e.sl.toNat
      omega
    rw [e0]
    simp only [List.length_cons, gEnts]
    rw [if_neg hne, h1]
    simp only [h2]
theorem back_B (m : Mg) (rest : List UInt8) (h : fB m = true) : gB sm (uB m.k) (some (bB m ++ rest)) = (m.ro, m.no, some rest) := by
  unfold gB bB
  unfold fB at h
  split
  · rename_i hu
    rw [if_pos hu] at h
    simp only [goodB, decide_eq_true_eq] at h
    rw [List.append_assoc, nat_back hs _ _ (by omega) (by omega)]
    simp only
    rw [nat_back hs _ _ (by omega) (by omega)]
  · rename_i hu
    rw [if_neg hu] at h
    simp only [decide_eq_true_eq] at h
    rw [h.1, h.2]; rfl
theorem back_S (m : Mg) (rest : List UInt8) (h : fS m = true) : gN sm (uS m.k) (some (bS m ++ rest)) = (m.sl, some rest) := by
  unfold gN bS
  unfold fS at h
  split
  · rename_i hu
    rw [if_pos hu] at h
    simp only [decide_eq_true_eq] at h
    have : kSl m.k ≤ 4096 := by unfold kSl; split <;> (try split) <;> omega
    rw [nat_back hs _ _ (by omega) (by omega)]
  · rename_i hu
    rw [if_neg hu] at h
    simp only [decide_eq_true_eq] at h
    rw [h]; rfl
theorem back_N (m : Mg) (rest : List UInt8) (h : fN m = true) : gN sm (uN m.k) (some (bN m ++ rest)) = (m.nu, some rest) := by
  unfold gN bN
  unfold fN at h
  split
  · rename_i hu
    rw [if_pos hu] at h
    simp only [decide_eq_true_eq] at h
    have h1 : kHi m.k ≤ 2147483647 := by unfold kHi; split <;> (try split) <;> omega
    have h2 : 0 ≤ kLo m.k := by unfold kLo; split <;> omega
    rw [nat_back hs _ _ (by omega) (by omega)]
  · rename_i hu
    rw [if_neg hu] at h
    simp only [decide_eq_true_eq] at h
    rw [h]; rfl
omit hs in
theorem back_V (m : Mg) (rest : List UInt8) (h : fV m = true) (hl : m.v.length ≤ 65536) : gV (uV m.k) (some (bV m ++ rest)) = (m.v, some rest) := by
  unfold gV bV
  unfold fV at h
  split
  · rw [List.append_assoc, rdT_back _ _ hl]
  · rename_i hu
    rw [if_neg hu] at h
    simp only [decide_eq_true_eq] at h
    rw [h]; rfl
omit hs in
theorem okL_len : ∀ (l : List Ent) (p : Int), okL p l = true → -1 ≤ p → p ≤ 4095 → (l.length : Int) ≤ 4095 - p
  | [], p, _, _, h => by simp; omega
  | e :: l, p, h, h0, h1 => by
    simp only [okL, Bool.and_eq_true] at h
    have ha := h.1
    simp only [okEnt, Bool.and_eq_true, decide_eq_true_eq] at ha
    have := okL_len l e.sl h.2 (by omega) (by omega)
    simp only [List.length_cons]
    omega
theorem back_C (m : Mg) (rest : List UInt8) (h : fL m = true) : gN sm (uL m.k) (some (bL m ++ rest)) = ((m.l.length : Int), some (bEnts m.l ++ rest)) := by
  unfold gN bL
  unfold fL at h
  split
  · rename_i hu
    rw [if_pos hu] at h
    have := okL_len m.l (-1) h (by omega) (by omega)
    rw [List.append_assoc, hs.back _ _ (by omega)]
  · rename_i hu
    rw [if_neg hu] at h
    simp only [decide_eq_true_eq] at h
    rw [h]; rfl
omit hs in
theorem argOK_parts {m : Mg} (h : argOK m = true) : headOK m = true ∧ fB m = true ∧ fS m = true ∧ fN m = true ∧ fV m = true ∧ fL m = true := by
  simp only [argOK, Bool.and_eq_true] at h
  exact ⟨h.1.1.1.1.1, h.1.1.1.1.2, h.1.1.1.2, h.1.1.2, h.1.2, h.2⟩
omit hs in
theorem longM_no {m : Mg} (h : ¬ longM m = true) : m.v.length ≤ 65536 ∧ ∀ e ∈ m.l, e.v.length ≤ 65536 := by
  simp only [longM, Bool.or_eq_true, decide_eq_true_eq, List.any_eq_true, not_or, not_exists, not_and, Nat.not_lt] at h
  exact ⟨h.1, fun e he => h.2 e he⟩
omit hs in
theorem encE_ok {m : Mg} (h : encE m = 0) : argOK m = true ∧ ¬ longM m = true ∧ (bytesM m).length ≤ 1048576 := by
  unfold encE at h
  split at h
  · rename_i ha
    split at h
    · omega
    · rename_i hb
      exact ⟨ha, fun q => hb (.inl q), by omega⟩
  · omega
theorem all_back (m : Mg) (rest : List UInt8) (h : encE m = 0) : gCnt sm (bytesM m ++ rest) = ((m.l.length : Int), some (bEnts m.l ++ rest)) ∧ gMg sm (bytesM m ++ rest) = m ∧ gEnd sm (bytesM m ++ rest) = some rest := by
  obtain ⟨ha, hl, _⟩ := encE_ok h
  obtain ⟨h0, h1, h2, h3, h4, h5⟩ := argOK_parts ha
  obtain ⟨hv, hvs⟩ := longM_no hl
  simp only [headOK, decide_eq_true_eq] at h0
  have e0 : bytesM m ++ rest = enc m.k.toNat ++ (enc m.fr.toNat ++ (enc m.tt.toNat ++ (bB m ++ (bS m ++ (bN m ++ (bV m ++ (bL m ++ rest))))))) := by simp [bytesM, bHead, List.append_assoc]
  have s1 := nat_back hs m.k (enc m.fr.toNat ++ (enc m.tt.toNat ++ (bB m ++ (bS m ++ (bN m ++ (bV m ++ (bL m ++ rest))))))) (by omega) (by omega)
  have s2 := nat_back hs m.fr (enc m.tt.toNat ++ (bB m ++ (bS m ++ (bN m ++ (bV m ++ (bL m ++ rest)))))) (by omega) (by omega)
  have s3 := nat_back hs m.tt (bB m ++ (bS m ++ (bN m ++ (bV m ++ (bL m ++ rest))))) (by omega) (by omega)
  have s4 := back_B hs m (bS m ++ (bN m ++ (bV m ++ (bL m ++ rest)))) h1
  have s5 := back_S hs m (bN m ++ (bV m ++ (bL m ++ rest))) h2
  have s6 := back_N hs m (bV m ++ (bL m ++ rest)) h3
  have s7 := back_V m (bL m ++ rest) h4 hv
  have s8 := back_C hs m rest h5
  have hc : gCnt sm (bytesM m ++ rest) = ((m.l.length : Int), some (bEnts m.l ++ rest)) := by
    unfold gCnt
    rw [e0]
    simp only [s1, s2, s3, s4, s5, s6, s7, s8]
  have hE : gEnts sm (gCnt sm (bytesM m ++ rest)).1.toNat (gCnt sm (bytesM m ++ rest)).2 = (m.l, some rest) := by
    rw [hc]
    simp only [Int.toNat_natCast]
    by_cases hu : uL m.k = true
    · unfold fL at h5
      rw [if_pos hu] at h5
      exact ents_back hs m.l (-1) rest h5 hvs
    · unfold fL at h5
      rw [if_neg hu] at h5
      simp only [decide_eq_true_eq] at h5
      rw [h5]; rfl
  refine ⟨hc, ?_, by unfold gEnd; rw [hE]⟩
  unfold gMg
  rw [hE, e0]
  simp only [s1, s2, s3, s4, s5, s6, s7]
/-! ### What was read has the bytes that were read -/
theorem sm_from {s : RS} {b : List UInt8} (h : (sm s).2 = some b) (h0 : 0 ≤ (sm s).1) : s = some (enc (sm s).1.toNat ++ b) := hs.from_ s _ b (Prod.ext rfl h) h0
theorem ent_from {s : RS} {b : List UInt8} (p : Int) (h : (gEnt sm s).2 = some b) (hok : okEnt p (gEnt sm s).1 = true) : s = some (bEnt (gEnt sm s).1 ++ b) := by
  simp only [okEnt, goodB, Bool.and_eq_true, decide_eq_true_eq] at hok
  have q1 : (gEnt sm s).1.sl = (sm s).1 := rfl
  have q2 : (gEnt sm s).1.ro = (sm (sm s).2).1 := rfl
  have q3 : (gEnt sm s).1.no = (sm (sm (sm s).2).2).1 := rfl
  rw [q1, q2, q3] at hok
  have h4 := (rdT_from (s := (sm (sm (sm s).2).2).2) (v := (rdT (sm (sm (sm s).2).2).2).1) (b := b) (Prod.ext rfl h)).1
  have h3 := sm_from hs h4 (by omega)
  have h2 := sm_from hs h3 (by omega)
  have h1 := sm_from hs h2 (by omega)
  conv => lhs; rw [h1]
  simp [bEnt, gEnt, List.append_assoc]
theorem ents_from : ∀ (n : Nat) (s : RS) (p : Int) (b : List UInt8), (gEnts sm n s).2 = some b → (gEnts sm n s).1.length = n → okL p (gEnts sm n s).1 = true → s = some (bEnts (gEnts sm n s).1 ++ b)
  | 0, s, p, b, h, _, _ => by simpa [gEnts, bEnts] using h
  | n + 1, s, p, b, h, hn, hok => by
    unfold gEnts at h hn hok ⊢
    split at h
    · rename_i hl
      rw [if_pos hl] at hn
      simp at hn
    · rename_i hl
      rw [if_neg hl] at hn hok ⊢
      simp only [List.length_cons, Nat.add_right_cancel_iff] at hn
      simp only [okL, Bool.and_eq_true] at hok
      have h1 := ents_from n _ _ b h hn hok.2
      have h2 := ent_from hs p h1 hok.1
      conv => lhs; rw [h2]
      simp [bEnts, List.append_assoc]
theorem from_B {s : RS} {b : List UInt8} {m : Mg} (h : (gB sm (uB m.k) s).2.2 = some b) (h1 : (gB sm (uB m.k) s).1 = m.ro) (h2 : (gB sm (uB m.k) s).2.1 = m.no) (hok : fB m = true) : s = some (bB m ++ b) := by
  unfold gB at h h1 h2
  unfold fB at hok
  unfold bB
  split at h
  · rename_i hu
    rw [if_pos hu] at h1 h2 hok ⊢
    simp only [goodB, decide_eq_true_eq] at hok
    simp only at h h1 h2
    have a1 := sm_from hs h (by omega)
    have a2 := sm_from hs a1 (by omega)
    rw [a2, h1, h2, List.append_assoc]
  · rename_i hu
    rw [if_neg hu]
    simpa using h
theorem from_N {u : Bool} {s : RS} {b : List UInt8} {x : Int} (h : (gN sm u s).2 = some b) (h1 : (gN sm u s).1 = x) (h0 : u = true → 0 ≤ x) : s = some ((if u = true then enc x.toNat else []) ++ b) := by
  unfold gN at h h1
  split at h
  · rename_i hu
    rw [if_pos hu] at h1 ⊢
    rw [← h1]
    exact sm_from hs h (by rw [h1]; exact h0 hu)
  · rename_i hu
    rw [if_neg hu]
    simpa using h
omit hs in
theorem from_V {u : Bool} {s : RS} {b v : List UInt8} (h : (gV u s).2 = some b) (h1 : (gV u s).1 = v) : s = some ((if u = true then enc v.length ++ v else []) ++ b) := by
  unfold gV at h h1
  split at h
  · rename_i hu
    rw [if_pos hu] at h1 ⊢
    rw [← h1]
    exact (rdT_from (Prod.ext rfl h)).1
  · rename_i hu
    rw [if_neg hu]
    simpa using h
theorem all_from (b : List UInt8) (h : gOK sm b) : bytesM (gMg sm b) = b := by
  obtain ⟨hk, he, hl, hE⟩ := h
  obtain ⟨ha, _, _⟩ := encE_ok hE
  obtain ⟨h0, h1, h2, h3, h4, h5⟩ := argOK_parts ha
  have hh := h0
  simp only [headOK, decide_eq_true_eq] at hh
  have h2' : uS (gMg sm b).k = true → 0 ≤ (gMg sm b).sl := fun hu => by
    unfold fS at h2; rw [if_pos hu] at h2; simp only [decide_eq_true_eq] at h2; omega
  have h3' : uN (gMg sm b).k = true → 0 ≤ (gMg sm b).nu := fun hu => by
    unfold fN at h3; rw [if_pos hu] at h3; simp only [decide_eq_true_eq] at h3
    have : 0 ≤ kLo (gMg sm b).k := by unfold kLo; split <;> omega
    omega
  have hc0 : 0 ≤ (gCnt sm b).1 := by rw [← hl]; omega
  have e9 : (gCnt sm b).2 = some (bEnts (gMg sm b).l ++ []) := by
    by_cases hu : uL (gMg sm b).k = true
    · unfold fL at h5
      rw [if_pos hu] at h5
      exact ents_from hs _ _ (-1) [] he (by show (gMg sm b).l.length = _; omega) h5
    · unfold fL at h5
      rw [if_neg hu] at h5
      simp only [decide_eq_true_eq] at h5
      rw [h5] at hl ⊢
      have hz : (gCnt sm b).1.toNat = 0 := by simp at hl; omega
      have := he
      unfold gEnd at this
      rw [hz] at this
      simpa [gEnts, bEnts] using this
  have e8 := from_N (u := uL (gMg sm b).k) hs e9 (x := ((gMg sm b).l.length : Int)) hl.symm (fun _ => by omega)
  have e7 := from_V (u := uV (gMg sm b).k) e8 (v := (gMg sm b).v) rfl
  have e6 := from_N (u := uN (gMg sm b).k) hs e7 (x := (gMg sm b).nu) rfl h3'
  have e5 := from_N (u := uS (gMg sm b).k) hs e6 (x := (gMg sm b).sl) rfl h2'
  have e4 := from_B (m := gMg sm b) hs e5 rfl rfl h1
  have e3 := sm_from hs e4 (by show 0 ≤ (gMg sm b).tt; omega)
  have e2 := sm_from hs e3 (by show 0 ≤ (gMg sm b).fr; omega)
  have e1 := sm_from hs e2 (by show 0 ≤ (gMg sm b).k; omega)
  have e1 := Option.some.inj e1
  have hL : (if uL (gMg sm b).k = true then enc ((gMg sm b).l.length : Int).toNat else []) ++ bEnts (gMg sm b).l = bL (gMg sm b) := by
    unfold bL
    rw [Int.toNat_natCast]
    split
    · rfl
    · rename_i hu
      unfold fL at h5
      rw [if_neg hu] at h5
      simp only [decide_eq_true_eq] at h5
      rw [h5]; rfl
  rw [List.append_nil] at e1
  conv => rhs; rw [e1]
  have ek : (sm (some b)).1 = (gMg sm b).k := rfl
  have ef : (sm (sm (some b)).2).1 = (gMg sm b).fr := rfl
  have et : (sm (sm (sm (some b)).2).2).1 = (gMg sm b).tt := rfl
  have eb : uL (gMg sm b).k = uL (gMg sm b).k := rfl
  rw [ek, ef, et]
  unfold bytesM bHead
  rw [← hL]
  unfold bS bN bV
  simp only [List.append_assoc]
theorem gOK_of (m : Mg) (h : encE m = 0) : gOK sm (bytesM m) ∧ gMg sm (bytesM m) = m := by
  have := all_back hs m [] h
  rw [List.append_nil] at this
  obtain ⟨h1, h2, h3⟩ := this
  have hk := (argOK_parts (encE_ok h).1).1
  simp only [headOK, decide_eq_true_eq] at hk
  exact ⟨⟨by rw [h2]; simp only [inK, decide_eq_true_eq]; omega, h3, by rw [h2, h1], by rw [h2]; exact h⟩, h2⟩
theorem gOK_iff (b : List UInt8) : gOK sm b ↔ ∃ m, encE m = 0 ∧ bytesM m = b :=
  ⟨fun h => ⟨gMg sm b, h.2.2.2, all_from hs b h⟩, fun ⟨m, h1, h2⟩ => by rw [← h2]; exact (gOK_of hs m h1).1⟩
end
instance (b : List UInt8) : Decidable (gOK pSm b) := by unfold gOK; exact inferInstance
/-- What bytes are read as. -/
def decM (b : List UInt8) : Mg × Int := if 1048576 < b.length then (zeroMg, 11) else if gOK pSm b then (gMg pSm b, 0) else (zeroMg, 10)
theorem gOK_same (b : List UInt8) : gOK rSm b ↔ gOK pSm b := (gOK_iff sm_r b).trans (gOK_iff sm_p b).symm
theorem gMg_same (b : List UInt8) (h : gOK pSm b) : gMg rSm b = gMg pSm b := by
  obtain ⟨m, h1, h2⟩ := (gOK_iff sm_p b).1 h
  rw [← h2, (gOK_of sm_r m h1).2, (gOK_of sm_p m h1).2]
theorem dec_back (m : Mg) (h : encE m = 0) : decM (bytesM m) = (m, 0) := by
  unfold decM
  have := (encE_ok h).2.2
  rw [if_neg (by omega), if_pos (gOK_of sm_p m h).1, (gOK_of sm_p m h).2]
theorem dec_from {b : List UInt8} (h : (decM b).2 = 0) : encE (decM b).1 = 0 ∧ bytesM (decM b).1 = b := by
  unfold decM at h ⊢
  split at h
  · cases h
  · rename_i hl
    rw [if_neg hl]
    split at h
    · rename_i hk
      rw [if_pos hk]
      exact ⟨hk.2.2.2, all_from sm_p b hk⟩
    · cases h
theorem dec_err {b : List UInt8} (h : (decM b).2 ≠ 0) : decM b = (zeroMg, 10) ∨ decM b = (zeroMg, 11) ∧ 1048576 < b.length := by
  unfold decM at h ⊢
  split
  · rename_i hl; exact .inr ⟨rfl, hl⟩
  · rename_i hl
    rw [if_neg hl] at h
    split
    · rename_i hk; rw [if_pos hk] at h; exact absurd rfl h
    · exact .inl rfl
/-- Bytes that are cut off, or have more behind them, are no message. -/
theorem dec_cut {m : Mg} (h : encE m = 0) (k : Nat) (hk : k < (bytesM m).length) : decM ((bytesM m).take k) = (zeroMg, 10) := by
  have hl := (encE_ok h).2.2
  unfold decM
  rw [if_neg (by rw [List.length_take]; omega), if_neg]
  intro hg
  obtain ⟨m', h1, h2⟩ := (gOK_iff sm_p _).1 hg
  have e := (all_back sm_p m' ((bytesM m).drop k) h1)
  rw [h2, List.take_append_drop] at e
  have e' := all_back sm_p m [] h
  rw [List.append_nil] at e'
  have := e.2.2.symm.trans e'.2.2
  have := congrArg List.length (Option.some.inj this)
  simp at this
  omega
theorem dec_more {m : Mg} (h : encE m = 0) (more : List UInt8) (hm : more ≠ []) : (decM (bytesM m ++ more)).2 = 10 ∨ 1048576 < (bytesM m ++ more).length := by
  by_cases hl : 1048576 < (bytesM m ++ more).length
  · exact .inr hl
  · left
    unfold decM
    rw [if_neg hl, if_neg]
    intro hg
    have e := (all_back sm_p m more h).2.2
    rw [hg.2.1] at e
    exact hm (Option.some.inj e).symm
theorem bytes_inj {m n : Mg} (h1 : encE m = 0) (h2 : encE n = 0) (h : bytesM m = bytesM n) : m = n := by
  have a := dec_back m h1
  rw [h, dec_back n h2] at a
  exact (congrArg Prod.fst a).symm
end Go.Proofs.YtlinjanflenljaaGreatDoor

namespace Go.Proofs.YtlinjanflenljaaGreatDoor
set_option linter.unusedSimpArgs false
set_option linter.unusedVariables false
def fourN : List Nat := [0, 498536548, 997073096, 651767980, 1994146192, 1802195444, 1303535960, 1342533948, 3988292384, 4027552580, 3604390888, 3412177804, 2607071920, 2262029012, 2685067896, 3183342108]
def four (i : Nat) : Nat := fourN.getD i 0
/-- A step. -/
def stp (r : Nat) : Nat := if r % 2 = 1 then (r / 2) ^^^ 3988292384 else r / 2
def half (r : Nat) : Nat := (r / 16) ^^^ four (r % 16)
/-- Eight steps. -/
def eightN (r : Nat) : Nat := half (half r)
def stps : Nat → Nat → Nat
  | 0, r => r
  | n + 1, r => stps n (stp r)
theorem xor_half (a b : Nat) : (a ^^^ b) / 2 = (a / 2) ^^^ (b / 2) := by
  have h := Nat.shiftRight_xor_distrib (a := a) (b := b) (i := 1)
  simpa [Nat.shiftRight_eq_div_pow] using h
theorem xor_even (a b : Nat) (hb : b % 2 = 0) : (a ^^^ b) % 2 = a % 2 := by
  have h := Nat.xor_mod_two_eq_one (a := a) (b := b)
  omega
theorem stp_xor (x c : Nat) (hc : c % 2 = 0) : stp (x ^^^ c) = stp x ^^^ (c / 2) := by
  unfold stp
  rw [xor_even x c hc, xor_half]
  split
  · rw [Nat.xor_assoc, Nat.xor_assoc, Nat.xor_comm (c / 2)]
  · rfl
theorem stp_even (q : Nat) : stp (2 * q) = q := by
  unfold stp
  rw [if_neg (by omega)]; omega
theorem stp_odd (q : Nat) : stp (2 * q + 1) = q ^^^ 3988292384 := by
  unfold stp
  rw [if_pos (by omega), show (2 * q + 1) / 2 = q from by omega]
theorem xor0 (a : Nat) : a ^^^ 0 = a := Nat.xor_zero a
def cc (b : Nat) : Nat := if b = 1 then 3988292384 else 0
theorem cc_even (b : Nat) : cc b % 2 = 0 ∧ cc b / 2 % 2 = 0 ∧ cc b / 2 / 2 % 2 = 0 ∧ cc b / 2 / 2 / 2 % 2 = 0 := by unfold cc; split <;> decide
theorem stp_bit (q b : Nat) (hb : b < 2) : stp (2 * q + b) = q ^^^ cc b := by
  rcases (by omega : b = 0 ∨ b = 1) with rfl | rfl
  · rw [Nat.add_zero, stp_even]; exact (xor0 q).symm
  · exact stp_odd q
theorem stp4_bits (q a b c d : Nat) (ha : a < 2) (hb : b < 2) (hc : c < 2) (hd : d < 2) :
    stp (stp (stp (stp (2 * (2 * (2 * (2 * q + d) + c) + b) + a)))) = q ^^^ (cc d ^^^ (cc c / 2) ^^^ (cc b / 2 / 2) ^^^ (cc a / 2 / 2 / 2)) := by
  have e := cc_even
  rw [stp_bit _ a ha, stp_xor _ _ (e a).1, stp_bit _ b hb, stp_xor _ _ (e a).2.1, stp_xor _ _ (e b).1, stp_bit _ c hc, stp_xor _ _ (e a).2.2.1, stp_xor _ _ (e b).2.1, stp_xor _ _ (e c).1, stp_bit _ d hd]
  simp only [Nat.xor_assoc]
theorem four_bits : ∀ a < 2, ∀ b < 2, ∀ c < 2, ∀ d < 2, (cc d ^^^ (cc c / 2) ^^^ (cc b / 2 / 2) ^^^ (cc a / 2 / 2 / 2)) = four (a + 2 * b + 4 * c + 8 * d) := by decide
theorem stp4 (r : Nat) : stp (stp (stp (stp r))) = half r := by
  have e : r = 2 * (2 * (2 * (2 * (r / 16) + r / 8 % 2) + r / 4 % 2) + r / 2 % 2) + r % 2 := by omega
  conv => lhs; rw [e]
  rw [stp4_bits _ _ _ _ _ (by omega) (by omega) (by omega) (by omega), four_bits _ (by omega) _ (by omega) _ (by omega) _ (by omega)]
  unfold half
  rw [show r % 2 + 2 * (r / 2 % 2) + 4 * (r / 4 % 2) + 8 * (r / 8 % 2) = r % 16 from by omega]
theorem stps8 (r : Nat) : stps 8 r = eightN r := by
  show stp (stp (stp (stp (stp (stp (stp (stp r))))))) = _
  rw [stp4, stp4]; rfl
theorem stp_lt {r : Nat} (h : r < 4294967296) : stp r < 4294967296 := by
  unfold stp
  split
  · exact Nat.xor_lt_two_pow (n := 32) (by omega) (by omega)
  · omega
theorem four_lt (i : Nat) : four i < 4294967296 := by
  unfold four
  rcases Nat.lt_or_ge i 16 with h | h
  · exact (by decide : ∀ i < 16, fourN.getD i 0 < 4294967296) i h
  · rw [List.getD_eq_getElem?_getD, List.getElem?_eq_none (by simpa [fourN] using h)]; decide
theorem half_lt {r : Nat} (h : r < 4294967296) : half r < 4294967296 := Nat.xor_lt_two_pow (n := 32) (by omega) (four_lt _)
theorem eight_lt {r : Nat} (h : r < 4294967296) : eightN r < 4294967296 := half_lt (half_lt h)
/-- A byte is taken in. -/
def takeN (r : Nat) (c : UInt8) : Nat := eightN (r ^^^ c.toNat)
def crcGo (r : Nat) (b : List UInt8) : Nat := b.foldl takeN r
theorem xor_byte_lt {r : Nat} (c : UInt8) (h : r < 4294967296) : r ^^^ c.toNat < 4294967296 := Nat.xor_lt_two_pow (n := 32) h (by have := c.toNat_lt; omega)
theorem take_lt {r : Nat} (c : UInt8) (h : r < 4294967296) : takeN r c < 4294967296 := eight_lt (xor_byte_lt c h)
theorem crcGo_lt : ∀ (b : List UInt8) (r : Nat), r < 4294967296 → crcGo r b < 4294967296
  | [], r, h => h
  | c :: b, r, h => crcGo_lt b _ (take_lt c h)
theorem crcGo_snoc (r : Nat) (b : List UInt8) (c : UInt8) : crcGo r (b ++ [c]) = takeN (crcGo r b) c := by simp [crcGo]
/-- The checksum. -/
def crcN (b : List UInt8) : Nat := 4294967295 - crcGo 4294967295 b
theorem crcN_lt (b : List UInt8) : crcN b < 4294967296 := by unfold crcN; omega
/-! ### The text -/
def hexC (d : Nat) : UInt8 := if d < 10 then UInt8.ofNat (48 + d) else UInt8.ofNat (87 + d)
/-- The digits of a number, the last k of them. -/
def hexL : Nat → Nat → List UInt8
  | 0, _ => []
  | k + 1, n => hexL k (n / 16) ++ [hexC (n % 16)]
theorem hexL_len : ∀ (k n : Nat), (hexL k n).length = k
  | 0, _ => rfl
  | k + 1, n => by simp [hexL, hexL_len k]
def hex8 (n : Nat) : List UInt8 := hexL 8 n
/-- The digits of a number without zeros ahead. -/
def hexD (n : Nat) : List UInt8 := if n < 16 then [hexC n] else hexD (n / 16) ++ [hexC (n % 16)]
termination_by n
decreasing_by omega
theorem hexD_lt {n : Nat} (h : n < 16) : hexD n = [hexC n] := by rw [hexD, if_pos h]
theorem hexD_ge {n : Nat} (h : ¬ n < 16) : hexD n = hexD (n / 16) ++ [hexC (n % 16)] := by rw [hexD, if_neg h]
theorem hexL_zero : ∀ k, hexL k 0 = List.replicate k 48
  | 0 => rfl
  | k + 1 => by
    rw [hexL, show 0 / 16 = 0 from rfl, hexL_zero k, List.replicate_succ']; rfl
theorem hex_pad : ∀ (k n : Nat), n < 16 ^ (k + 1) → (hexD n).length ≤ k + 1 ∧ List.replicate (k + 1 - (hexD n).length) 48 ++ hexD n = hexL (k + 1) n
  | 0, n, h => by
    rw [hexD_lt (by simpa using h)]
    refine ⟨by simp, ?_⟩
    have h' : n < 16 := by simpa using h
    simp [hexL, Nat.mod_eq_of_lt h']
  | k + 1, n, h => by
    rcases Nat.lt_or_ge n 16 with q | q
    · rw [hexD_lt q]
      refine ⟨by simp, ?_⟩
      show List.replicate (k + 1) 48 ++ [hexC n] = hexL (k + 1) (n / 16) ++ [hexC (n % 16)]
      rw [Nat.div_eq_of_lt q, Nat.mod_eq_of_lt q, hexL_zero]
    · rw [hexD_ge (by omega)]
      have := hex_pad k (n / 16) (by rw [Nat.pow_succ] at h; exact Nat.div_lt_of_lt_mul (by rw [Nat.mul_comm]; exact h))
      obtain ⟨h1, h2⟩ := this
      refine ⟨by simp; omega, ?_⟩
      rw [hexL, ← h2]
      simp only [List.length_append, List.length_singleton, ← List.append_assoc]
      congr 3
      omega
theorem hex8_pad {n : Nat} (h : n < 4294967296) : (hexD n).length ≤ 8 ∧ List.replicate (8 - (hexD n).length) 48 ++ hexD n = hex8 n := hex_pad 7 n (by omega)
end Go.Proofs.YtlinjanflenljaaGreatDoor

namespace Go.Proofs.YtlinjanflenljaaGreatDoor
set_option linter.unusedSimpArgs false
set_option linter.unusedVariables false
def wordL : List (List UInt8) := [[], [112, 114, 101, 112, 97, 114, 101], [112, 114, 111, 109, 105, 115, 101], [114, 101, 106, 101, 99, 116], [97, 99, 99, 101, 112, 116], [97, 99, 99, 101, 112, 116, 101, 100], [99, 104, 111, 115, 101, 110], [98, 101, 97, 116], [102, 101, 116, 99, 104], [115, 110, 97, 112], [97, 115, 107], [97, 110, 115, 119, 101, 114]]
def wordM (k : Int) : List UInt8 := wordL.getD k.toNat []
/-- A value. -/
def someV (v : List UInt8) : List UInt8 := Lib.decDigits v.length ++ 35 :: hex8 (crcN v)
def tEnt (e : Ent) : List UInt8 := Lib.decDigits e.sl.toNat ++ 47 :: txt e.ro e.no ++ 47 :: someV e.v
def tEnts : List Ent → List UInt8
  | [] => []
  | e :: l => 32 :: tEnt e ++ tEnts l
def tHead (m : Mg) : List UInt8 := Lib.decDigits m.fr.toNat ++ 62 :: Lib.decDigits m.tt.toNat ++ 32 :: wordM m.k
def tB (m : Mg) : List UInt8 := if uB m.k = true then 32 :: txt m.ro m.no else []
def tS (m : Mg) : List UInt8 := if uS m.k = true then 32 :: Lib.decDigits m.sl.toNat else []
def tN (m : Mg) : List UInt8 := if uN m.k = true then 32 :: Lib.decDigits m.nu.toNat else []
def tV (m : Mg) : List UInt8 := if uV m.k = true then 32 :: someV m.v else []
def tL (m : Mg) : List UInt8 := if uL m.k = true then tEnts m.l else []
def textM (m : Mg) : List UInt8 := tHead m ++ tB m ++ tS m ++ tN m ++ tV m ++ tL m
/-- What Text comes to. -/
def txtM (m : Mg) : List UInt8 := if encE m = 0 then textM m else []
/-! ### Texts are read from their beginning -/
def nb (p : UInt8 → Bool) (x : List UInt8) : Prop := ∀ c ∈ x.head?, p c = false
theorem run_split (p : UInt8 → Bool) : ∀ (a b x y : List UInt8), (∀ c ∈ a, p c = true) → (∀ c ∈ b, p c = true) → nb p x → nb p y → a ++ x = b ++ y → a = b ∧ x = y
  | [], [], x, y, _, _, _, _, h => ⟨rfl, h⟩
  | [], d :: b, x, y, _, hb, hx, _, h => by
    rw [List.nil_append] at h
    subst h
    have h1 := hx d (by simp)
    rw [hb d (by simp)] at h1
    cases h1
  | c :: a, [], x, y, ha, _, _, hy, h => by
    rw [List.nil_append] at h
    subst h
    have h1 := hy c (by simp)
    rw [ha c (by simp)] at h1
    cases h1
  | c :: a, d :: b, x, y, ha, hb, hx, hy, h => by
    simp only [List.cons_append, List.cons.injEq] at h
    obtain ⟨rfl, h⟩ := h
    obtain ⟨rfl, h2⟩ := run_split p a b x y (fun z hz => ha z (by simp [hz])) (fun z hz => hb z (by simp [hz])) hx hy h
    exact ⟨rfl, h2⟩
def isD (c : UInt8) : Bool := decide (48 ≤ c.toNat ∧ c.toNat ≤ 57)
theorem dec_isD (u : Nat) : ∀ c ∈ Lib.decDigits u, isD c = true := fun c hc => by unfold isD; exact decide_eq_true (dec_digits u c hc)
theorem dec_inj {a b : Nat} (ha : a < 1000000000000000000) (hb : b < 1000000000000000000) (h : Lib.decDigits a = Lib.decDigits b) : a = b := by
  have h1 := parse_dec a ha
  rw [h, parse_dec b hb] at h1
  injection h1 with h1
  exact h1.symm
theorem dec_split {a b : Nat} {x y : List UInt8} (ha : a < 1000000000000000000) (hb : b < 1000000000000000000) (hx : nb isD x) (hy : nb isD y) (h : Lib.decDigits a ++ x = Lib.decDigits b ++ y) : a = b ∧ x = y := by
  obtain ⟨h1, h2⟩ := run_split isD _ _ _ _ (dec_isD a) (dec_isD b) hx hy h
  exact ⟨dec_inj ha hb h1, h2⟩
/-- Nothing, or a space ahead. -/
def Sp (x : List UInt8) : Prop := x = [] ∨ ∃ t, x = 32 :: t
theorem Sp.nbD {x : List UInt8} (h : Sp x) : nb isD x := by
  intro c hc
  rcases h with rfl | ⟨t, rfl⟩
  · cases hc
  · simp only [List.head?_cons, Option.mem_def, Option.some.injEq] at hc
    subst hc; rfl
theorem nb_cons {p : UInt8 → Bool} {c : UInt8} {t : List UInt8} (h : p c = false) : nb p (c :: t) := by
  intro d hd
  simp only [List.head?_cons, Option.mem_def, Option.some.injEq] at hd
  subst hd; exact h
def no32 (c : UInt8) : Bool := decide (c ≠ 32)
theorem Sp.nb32 {x : List UInt8} (h : Sp x) : nb no32 x := by
  intro c hc
  rcases h with rfl | ⟨t, rfl⟩
  · cases hc
  · simp only [List.head?_cons, Option.mem_def, Option.some.injEq] at hc
    subst hc; rfl
theorem word_no32 : ∀ k < 12, ∀ c ∈ wordL.getD k [], no32 c = true := by decide
theorem word_inj : ∀ a < 12, ∀ b < 12, 1 ≤ a → 1 ≤ b → wordL.getD a [] = wordL.getD b [] → a = b := by decide
theorem sp_app {u : Bool} {a x : List UInt8} (hx : Sp x) : Sp ((if u = true then 32 :: a else []) ++ x) := by
  split
  · exact .inr ⟨_, rfl⟩
  · exact hx
theorem sp_ents : ∀ l, Sp (tEnts l)
  | [] => .inl rfl
  | e :: l => .inr ⟨_, rfl⟩
theorem num_split {u : Bool} {a b : Int} {x y : List UInt8} (h0 : 0 ≤ a) (h1 : a ≤ 2147483647) (g0 : 0 ≤ b) (g1 : b ≤ 2147483647) (hx : Sp x) (hy : Sp y)
    (h : (if u = true then 32 :: Lib.decDigits a.toNat else []) ++ x = (if u = true then 32 :: Lib.decDigits b.toNat else []) ++ y) : (u = true → a = b) ∧ x = y := by
  split at h
  · rename_i hu
    simp only [List.cons_append, List.cons.injEq, true_and] at h
    obtain ⟨e, r⟩ := dec_split (by omega) (by omega) hx.nbD hy.nbD h
    exact ⟨fun _ => by omega, r⟩
  · rename_i hu
    exact ⟨fun q => absurd q hu, h⟩
theorem bal_split {u : Bool} {a b c d : Int} {x y : List UInt8} (h0 : 0 ≤ a ∧ a ≤ 2147483647) (h1 : 0 ≤ b ∧ b ≤ 2147483647) (h2 : 0 ≤ c ∧ c ≤ 2147483647) (h3 : 0 ≤ d ∧ d ≤ 2147483647) (hx : Sp x) (hy : Sp y)
    (h : (if u = true then 32 :: txt a b else []) ++ x = (if u = true then 32 :: txt c d else []) ++ y) : (u = true → a = c ∧ b = d) ∧ x = y := by
  split at h
  · rename_i hu
    simp only [txt, List.cons_append, List.cons.injEq, true_and, List.append_assoc] at h
    obtain ⟨e, r⟩ := dec_split (by omega) (by omega) (nb_cons (by rfl)) (nb_cons (by rfl)) h
    simp only [List.cons.injEq, true_and] at r
    obtain ⟨e2, r2⟩ := dec_split (by omega) (by omega) hx.nbD hy.nbD r
    exact ⟨fun _ => by omega, r2⟩
  · rename_i hu
    exact ⟨fun q => absurd q hu, h⟩
theorem ballot_num {m : Mg} (h : fB m = true) : (0 ≤ m.ro ∧ m.ro ≤ 2147483647) ∧ (0 ≤ m.no ∧ m.no ≤ 2147483647) := by
  unfold fB at h
  split at h
  · simp only [goodB, decide_eq_true_eq] at h; omega
  · simp only [decide_eq_true_eq] at h; omega
theorem slot_num {m : Mg} (h : fS m = true) : 0 ≤ m.sl ∧ m.sl ≤ 4096 := by
  have : kSl m.k ≤ 4096 := by unfold kSl; split <;> (try split) <;> omega
  unfold fS at h
  split at h
  · simp only [decide_eq_true_eq] at h; omega
  · simp only [decide_eq_true_eq] at h; omega
theorem num_num {m : Mg} (h : fN m = true) : 0 ≤ m.nu ∧ m.nu ≤ 2147483647 := by
  have h1 : kHi m.k ≤ 2147483647 := by unfold kHi; split <;> (try split) <;> omega
  have h2 : 0 ≤ kLo m.k := by unfold kLo; split <;> omega
  unfold fN at h
  split at h
  · simp only [decide_eq_true_eq] at h; omega
  · simp only [decide_eq_true_eq] at h; omega
/-- Messages without values that have the same text are the same. -/
theorem text_inj {m n : Mg} (hm : encE m = 0) (hn : encE n = 0) (m1 : m.v = []) (m2 : m.l = []) (n1 : n.v = []) (n2 : n.l = []) (h : textM m = textM n) : m = n := by
  obtain ⟨a0, a1, a2, a3, a4, a5⟩ := argOK_parts (encE_ok hm).1
  obtain ⟨b0, b1, b2, b3, b4, b5⟩ := argOK_parts (encE_ok hn).1
  simp only [headOK, decide_eq_true_eq] at a0 b0
  have am := ballot_num a1; have bm := ballot_num b1
  have as := slot_num a2; have bs := slot_num b2
  have an := num_num a3; have bn := num_num b3
  unfold textM tHead at h
  simp only [List.append_assoc, List.cons_append] at h
  obtain ⟨e1, h⟩ := dec_split (by omega) (by omega) (nb_cons (by rfl)) (nb_cons (by rfl)) h
  simp only [List.cons.injEq, true_and] at h
  obtain ⟨e2, h⟩ := dec_split (by omega) (by omega) (nb_cons (by rfl)) (nb_cons (by rfl)) h
  simp only [List.cons.injEq, true_and] at h
  have sL : ∀ q : Mg, Sp (tL q) := fun q => by
    unfold tL; split
    · exact sp_ents _
    · exact .inl rfl
  have sV : ∀ q : Mg, Sp (tV q ++ tL q) := fun q => sp_app (sL q)
  have sN : ∀ q : Mg, Sp (tN q ++ (tV q ++ tL q)) := fun q => sp_app (sV q)
  have sS : ∀ q : Mg, Sp (tS q ++ (tN q ++ (tV q ++ tL q))) := fun q => sp_app (sN q)
  have sB : ∀ q : Mg, Sp (tB q ++ (tS q ++ (tN q ++ (tV q ++ tL q)))) := fun q => sp_app (sS q)
  obtain ⟨e3, h⟩ := run_split no32 _ _ _ _ (word_no32 m.k.toNat (by omega)) (word_no32 n.k.toNat (by omega)) (sB m).nb32 (sB n).nb32 h
  have hk : m.k = n.k := by
    have := word_inj m.k.toNat (by omega) n.k.toNat (by omega) (by omega) (by omega) e3
    omega
  unfold fB at a1 b1
  unfold fS at a2 b2
  unfold fN at a3 b3
  unfold tB at h
  rw [← hk] at h b1 b2 b3
  obtain ⟨e4, h⟩ := bal_split am.1 am.2 bm.1 bm.2 (sS m) (sS n) h
  unfold tS at h
  rw [← hk] at h
  obtain ⟨e5, h⟩ := num_split as.1 (by omega) bs.1 (by omega) (sN m) (sN n) h
  unfold tN at h
  rw [← hk] at h
  obtain ⟨e6, h⟩ := num_split an.1 an.2 bn.1 bn.2 (sV m) (sV n) h
  obtain ⟨k, fr, tt, ro, no, sl, nu, v, l⟩ := m
  obtain ⟨k', fr', tt', ro', no', sl', nu', v', l'⟩ := n
  simp only at *
  subst hk m1 m2 n1 n2
  have x1 : fr = fr' := by omega
  have x2 : tt = tt' := by omega
  have x3 : ro = ro' ∧ no = no' := by
    by_cases hu : uB k = true
    · exact e4 hu
    · rw [if_neg hu, decide_eq_true_eq] at a1 b1
      omega
  have x4 : sl = sl' := by
    by_cases hu : uS k = true
    · exact e5 hu
    · rw [if_neg hu, decide_eq_true_eq] at a2 b2
      omega
  have x5 : nu = nu' := by
    by_cases hu : uN k = true
    · exact e6 hu
    · rw [if_neg hu, decide_eq_true_eq] at a3 b3
      omega
  rw [x1, x2, x3.1, x3.2, x4, x5]
end Go.Proofs.YtlinjanflenljaaGreatDoor

namespace Go.Proofs.YtlinjanflenljaaGreatDoor
set_option linter.unusedSimpArgs false
set_option linter.unusedVariables false
/-- Kind k uses the field j. -/
def fUse (j : Nat) (k : Int) : Bool := match j with
  | 0 => uB k | 1 => uS k | 2 => uN k | 3 => uV k | _ => uL k
def fOk (j : Nat) (m : Mg) : Bool := match j with
  | 0 => goodB m.ro m.no | 1 => decide (0 ≤ m.sl ∧ m.sl ≤ kSl m.k) | 2 => decide (kLo m.k ≤ m.nu ∧ m.nu ≤ kHi m.k) | 3 => true | _ => okL (-1) m.l
def fZero (j : Nat) (m : Mg) : Bool := match j with
  | 0 => decide (m.ro = 0 ∧ m.no = 0) | 1 => decide (m.sl = 0) | 2 => decide (m.nu = 0) | 3 => decide (m.v = []) | _ => decide (m.l = [])
def fGood (j : Nat) (m : Mg) : Bool := if fUse j m.k = true then fOk j m else fZero j m
def fBytes (j : Nat) (m : Mg) : List UInt8 := match j with
  | 0 => enc m.ro.toNat ++ enc m.no.toNat | 1 => enc m.sl.toNat | 2 => enc m.nu.toNat | 3 => enc m.v.length ++ m.v | _ => enc m.l.length ++ bEnts m.l
def fText (j : Nat) (m : Mg) : List UInt8 := match j with
  | 0 => txt m.ro m.no | 1 => Lib.decDigits m.sl.toNat | 2 => Lib.decDigits m.nu.toNat | 3 => someV m.v | _ => Lib.join (m.l.map tEnt) [32]
def useBit (j : Nat) : Int := match j with
  | 0 => 1 | 1 => 2 | 2 => 4 | 3 => 8 | _ => 16
/-- The fields below j are allowed. -/
def goodTo (m : Mg) : Nat → Bool
  | 0 => true
  | j + 1 => goodTo m j && fGood j m
theorem argOK_to (m : Mg) : argOK m = (headOK m && goodTo m 5) := by
  have h0 : fGood 0 m = fB m := rfl
  have h1 : fGood 1 m = fS m := rfl
  have h2 : fGood 2 m = fN m := rfl
  have h3 : fGood 3 m = fV m := rfl
  have h4 : fGood 4 m = fL m := rfl
  simp only [goodTo, argOK, h0, h1, h2, h3, h4, Bool.true_and, Bool.and_assoc]
theorem goodTo_mono (m : Mg) : ∀ (i j : Nat), i ≤ j → goodTo m j = true → goodTo m i = true
  | i, 0, h, g => by rw [show i = 0 from by omega]; exact g
  | i, j + 1, h, g => by
    rcases Nat.lt_or_ge i (j + 1) with q | q
    · simp only [goodTo, Bool.and_eq_true] at g
      exact goodTo_mono m i j (by omega) g.1
    · rw [show i = j + 1 from by omega]; exact g
theorem good_stop (m : Mg) {j : Nat} (hj : j < 5) (h : fGood j m = false) : argOK m = false := by
  rw [argOK_to]
  have : goodTo m 5 = false := by
    rw [← Bool.not_eq_true]
    intro g
    have := goodTo_mono m (j + 1) 5 (by omega) g
    simp [goodTo, h] at this
  rw [this, Bool.and_false]
theorem good_all {m : Mg} (h : argOK m = true) {j : Nat} (hj : j < 5) : fGood j m = true := by
  rw [argOK_to, Bool.and_eq_true] at h
  have := goodTo_mono m (j + 1) 5 (by omega) h.2
  simp only [goodTo, Bool.and_eq_true] at this
  exact this.2
/-- The bytes of the fields below j. -/
def bytesTo (m : Mg) : Nat → List UInt8
  | 0 => bHead m
  | j + 1 => bytesTo m j ++ (if fUse j m.k = true then fBytes j m else [])
theorem bytesM_to (m : Mg) : bytesTo m 5 = bytesM m := rfl
/-- The texts of the fields below j. -/
def fIn (j : Nat) (m : Mg) : Bool := fUse j m.k && (decide (j ≠ 4) || !fZero j m)
def textsTo (m : Mg) : Nat → List (List UInt8)
  | 0 => [Lib.decDigits m.fr.toNat ++ 62 :: Lib.decDigits m.tt.toNat, wordM m.k]
  | j + 1 => textsTo m j ++ (if fIn j m = true then [fText j m] else [])
theorem join_snoc (x y z : List UInt8) (r : List (List UInt8)) : Lib.join (x :: y :: (r ++ [z])) [32] = Lib.join (x :: y :: r) [32] ++ 32 :: z := by
  rw [Lib.join_cons, Lib.join_cons]
  simp [Lib.joinTail]
theorem texts_cons (m : Mg) : ∀ j, ∃ r, textsTo m j = (Lib.decDigits m.fr.toNat ++ 62 :: Lib.decDigits m.tt.toNat) :: wordM m.k :: r
  | 0 => ⟨[], rfl⟩
  | j + 1 => by
    obtain ⟨r, h⟩ := texts_cons m j
    exact ⟨r ++ (if fIn j m = true then [fText j m] else []), by simp [textsTo, h]⟩
theorem texts_step (m : Mg) (j : Nat) : Lib.join (textsTo m (j + 1)) [32] = Lib.join (textsTo m j) [32] ++ (if fIn j m = true then 32 :: fText j m else []) := by
  obtain ⟨r, h⟩ := texts_cons m j
  rw [textsTo, h]
  split
  · exact join_snoc _ _ _ _
  · simp
theorem ents_join : ∀ l : List Ent, l ≠ [] → 32 :: Lib.join (l.map tEnt) [32] = tEnts l
  | [], h => absurd rfl h
  | e :: l, _ => by
    rw [List.map_cons, Lib.join_cons]
    have : ∀ l : List Ent, Lib.joinTail [32] (l.map tEnt) = tEnts l := by
      intro l
      induction l with
      | nil => rfl
      | cons a l ih =>
        have : Lib.joinTail [32] (List.map tEnt (a :: l)) = 32 :: tEnt a ++ Lib.joinTail [32] (l.map tEnt) := by simp [Lib.joinTail]
        rw [this, ih, tEnts]
    rw [this, tEnts, List.cons_append]
theorem text_join (m : Mg) : Lib.join (textsTo m 5) [32] = textM m := by
  rw [texts_step, texts_step, texts_step, texts_step, texts_step]
  have h0 : Lib.join (textsTo m 0) [32] = tHead m := by
    show Lib.join [_, _] [32] = _
    rw [Lib.join_cons]
    simp [Lib.joinTail, tHead]
  have g0 : (if fIn 0 m = true then 32 :: fText 0 m else []) = tB m := by unfold fIn tB; simp [fUse, fText]
  have g1 : (if fIn 1 m = true then 32 :: fText 1 m else []) = tS m := by unfold fIn tS; simp [fUse, fText]
  have g2 : (if fIn 2 m = true then 32 :: fText 2 m else []) = tN m := by unfold fIn tN; simp [fUse, fText]
  have g3 : (if fIn 3 m = true then 32 :: fText 3 m else []) = tV m := by unfold fIn tV; simp [fUse, fText]
  have g4 : (if fIn 4 m = true then 32 :: fText 4 m else []) = tL m := by
    unfold fIn tL
    by_cases hl : m.l = []
    · simp [fUse, fZero, hl, tEnts]
    · simp only [fUse, fZero, hl, ne_eq, not_true_eq_false, decide_false, Bool.not_false, Bool.or_true, Bool.and_true]
      show (if uL m.k = true then 32 :: Lib.join (m.l.map tEnt) [32] else []) = _
      rw [ents_join m.l hl]
  rw [h0, g0, g1, g2, g3, g4]
  rfl
end Go.Proofs.YtlinjanflenljaaGreatDoor
