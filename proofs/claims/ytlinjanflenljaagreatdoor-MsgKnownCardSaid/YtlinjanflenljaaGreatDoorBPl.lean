/- Ballots as pairs of numbers: what each function of the chapter computes. No program in sight. -/
import Derived.Lib.ItoaNum
import Derived.Lib.AtoiAll
import Derived.Lib.AtoiAllCases
import Derived.Lib.IndexMore
import Derived.Lib.Index
namespace Go.Proofs.YtlinjanflenljaaGreatDoor
set_option linter.unusedSimpArgs false
set_option linter.unusedVariables false
/-- A ballot is one of k nodes. -/
def vld (r n k : Int) : Bool := decide (1 ≤ k ∧ k ≤ 7 ∧ ((r = 0 ∧ n = 0) ∨ (1 ≤ r ∧ r ≤ 1073741824 ∧ 0 ≤ n ∧ n < k)))
def chkE (r n k : Int) : Int := if vld r n k = true then 0 else 2
theorem vld_iff (r n k : Int) : vld r n k = true ↔ 1 ≤ k ∧ k ≤ 7 ∧ ((r = 0 ∧ n = 0) ∨ (1 ≤ r ∧ r ≤ 1073741824 ∧ 0 ≤ n ∧ n < k)) := by unfold vld; exact decide_eq_true_iff
theorem vld_no {r n k : Int} (h : ¬ (1 ≤ k ∧ k ≤ 7 ∧ ((r = 0 ∧ n = 0) ∨ (1 ≤ r ∧ r ≤ 1073741824 ∧ 0 ≤ n ∧ n < k)))) : vld r n k = false := by unfold vld; exact decide_eq_false h
theorem chkE_ok {r n k : Int} (h : vld r n k = true) : chkE r n k = 0 := by unfold chkE; rw [if_pos h]
theorem chkE_bad {r n k : Int} (h : vld r n k = false) : chkE r n k = 2 := by unfold chkE; rw [h]; rfl
def cmpI (a b : Int) : Int := if a < b then -1 else if b < a then 1 else 0
def ordI (r n s m : Int) : Int := if r = s then cmpI n m else cmpI r s
def nr (r n p : Int) : Int := if r = 0 ∨ p ≤ n then r + 1 else r
/-- What Next comes to: a ballot and an error. -/
def nxt (r n p : Int) : Int × Int × Int :=
  if vld r n 7 = true ∧ 0 ≤ p ∧ p < 7 then (if nr r n p ≤ 1073741824 then (nr r n p, p, 0) else (0, 0, 7)) else (0, 0, 2)
def num (r n k : Int) : Int × Int := if vld r n k = true then (if r = 0 ∧ n = 0 then (0, 0) else ((r - 1) * k + n + 1, 0)) else (0, 2)
def frm (q k : Int) : Int × Int × Int :=
  if 1 ≤ k ∧ k ≤ 7 then (if 0 ≤ q ∧ q ≤ 1073741824 * k then (if q = 0 then (0, 0, 0) else ((q - 1) / k + 1, (q - 1) % k, 0)) else (0, 0, 3)) else (0, 0, 2)
/-- A ballot's text. -/
def txt (r n : Int) : List UInt8 := Lib.decDigits r.toNat ++ 46 :: Lib.decDigits n.toNat
def txtS (r n : Int) : ByteArray := if vld r n 7 = true then ⟨(txt r n).toArray⟩ else ByteArray.empty
def prs (l : List UInt8) : Int × Int × Int :=
  match Lib.atoiAll (Lib.cut l [46]).1, Lib.atoiAll (Lib.cut l [46]).2.1 with
  | .ok x, .ok y => if vld x y 7 = true ∧ txt x y = l then (x, y, 0) else (0, 0, 10)
  | _, _ => (0, 0, 10)

/-! ### Digits -/
theorem dig_of {u : Nat} (h : u < 10) : (UInt8.ofNat (48 + u)).toNat = 48 + u := by
  rw [UInt8.toNat_ofNat']; omega
theorem dec_digits : ∀ (u : Nat), ∀ c ∈ Lib.decDigits u, 48 ≤ c.toNat ∧ c.toNat ≤ 57 := by
  intro u
  induction u using Nat.strongRecOn with
  | _ u ih =>
    intro c hc
    rw [Lib.decDigits] at hc
    split at hc
    · rename_i h
      simp only [List.mem_singleton] at hc
      rw [hc, dig_of h]; omega
    · rename_i h
      rw [List.mem_append] at hc
      rcases hc with hc | hc
      · exact ih (u / 10) (by omega) c hc
      · simp only [List.mem_singleton] at hc
        rw [hc, dig_of (by omega)]; omega
theorem dec_ne (u : Nat) : Lib.decDigits u ≠ [] := by
  rw [Lib.decDigits]; split <;> simp
theorem parse_app : ∀ (xs ys : List UInt8) (acc a : Nat), Lib.parseUint10 acc xs = .ok a → Lib.parseUint10 acc (xs ++ ys) = Lib.parseUint10 a ys
  | [], ys, acc, a, h => by
    simp only [Lib.parseUint10] at h
    injection h with h
    subst h; rfl
  | c :: r, ys, acc, a, h => by
    simp only [Lib.parseUint10, List.cons_append] at h ⊢
    split at h
    · rename_i h1
      rw [if_pos h1]
      split at h
      · cases h
      · rename_i h2
        rw [if_neg h2]
        split at h
        · cases h
        · rename_i h3
          rw [if_neg h3]
          exact parse_app r ys _ a h
    · cases h
theorem parse_one (acc d : Nat) (hd : d < 10) (ha : acc < 1000000000000000000) : Lib.parseUint10 acc [UInt8.ofNat (48 + d)] = .ok (acc * 10 + d) := by
  simp only [Lib.parseUint10, dig_of hd]
  rw [if_pos (by omega), if_neg (by omega), if_neg (by omega)]
  congr 1
  omega
theorem parse_dec : ∀ u : Nat, u < 1000000000000000000 → Lib.parseUint10 0 (Lib.decDigits u) = .ok u := by
  intro u
  induction u using Nat.strongRecOn with
  | _ u ih =>
    intro hu
    by_cases h : u < 10
    · rw [Lib.decDigits_one h, parse_one 0 u h (by omega)]
      congr 1; omega
    · rw [Lib.decDigits, dif_neg h, parse_app _ _ 0 (u / 10) (ih (u / 10) (by omega) (by omega)), parse_one _ _ (by omega) (by omega)]
      congr 1; omega
theorem atoi_dec (u : Nat) (hu : u < 1000000000000000000) : Lib.atoiAll (Lib.decDigits u) = .ok (u : Int) := by
  have hd := dec_digits u
  have hp := parse_dec u hu
  have hn := dec_ne u
  generalize Lib.decDigits u = l at *
  cases l with
  | nil => exact absurd rfl hn
  | cons c r =>
    have hc := hd c (List.mem_cons_self ..)
    rw [Lib.atoiAll_plain c r (by omega) (by omega)]
    unfold Lib.parseMag
    rw [if_neg hn, hp]
    simp only [Lib.signless]
    rw [if_neg (by omega)]

/-! ### A text is cut and read -/
theorem index_txt (a b : List UInt8) (ha : ∀ c ∈ a, 48 ≤ c.toNat ∧ c.toNat ≤ 57) : Lib.index (a ++ 46 :: b) [46] = a.length := by
  have e46 : (46 : UInt8).toNat = 46 := rfl
  refine Lib.index_first (by simp) (by simp [Lib.occAt]) (fun j hj => ?_)
  have hx : (a ++ 46 :: b).drop j = a[j] :: (a ++ 46 :: b).drop (j + 1) := by
    rw [List.drop_eq_getElem_cons (by simp; omega), List.getElem_append_left hj]
  unfold Lib.occAt
  rw [hx]
  have := ha a[j] (List.getElem_mem hj)
  have hne : (46 : UInt8) ≠ a[j] := fun e => by rw [← e] at this; omega
  simp [List.isPrefixOf, hne]
theorem cut_txt (a b : List UInt8) (ha : ∀ c ∈ a, 48 ≤ c.toNat ∧ c.toNat ≤ 57) : Lib.cut (a ++ 46 :: b) [46] = (a, b, true) := by
  unfold Lib.cut
  rw [index_txt a b ha, if_pos (by omega)]
  simp
theorem prs_txt {r n : Int} (h : vld r n 7 = true) : prs (txt r n) = (r, n, 0) := by
  have hv := (vld_iff r n 7).1 h
  have hc : Lib.cut (txt r n) [46] = (Lib.decDigits r.toNat, Lib.decDigits n.toNat, true) := cut_txt _ _ (dec_digits _)
  unfold prs
  rw [hc]
  simp only [atoi_dec r.toNat (by omega), atoi_dec n.toNat (by omega)]
  rw [show ((r.toNat : Nat) : Int) = r from by omega, show ((n.toNat : Nat) : Int) = n from by omega, if_pos ⟨h, rfl⟩]
theorem prs_or (l : List UInt8) : prs l = (0, 0, 10) ∨ ∃ x y, prs l = (x, y, 0) ∧ vld x y 7 = true ∧ txt x y = l := by
  unfold prs
  split
  · rename_i x y _ _
    split
    · rename_i h; exact .inr ⟨x, y, rfl, h.1, h.2⟩
    · exact .inl rfl
  · exact .inl rfl
/-- A reading that gives a ballot whose text it was: it is the reading. -/
theorem prs_if (x y : Int) (l : List UInt8) (h : ∀ r n, vld r n 7 = true → txt r n = l → x = r ∧ y = n) : (if vld x y 7 = true ∧ txt x y = l then (x, y, (0 : Int)) else (0, 0, 10)) = prs l := by
  split
  · rename_i hc
    rw [← hc.2]; exact (prs_txt hc.1).symm
  · rename_i hc
    rcases prs_or l with e | ⟨r, n, e, hv, ht⟩
    · exact e.symm
    · obtain ⟨rfl, rfl⟩ := h r n hv ht
      exact absurd ⟨hv, ht⟩ hc

/-! ### The reference's own reading -/
structure Sc where
  k : Nat
  p : Int
  q : Int
def Sc.step (s : Sc) (c : UInt8) : Sc :=
  if c.toNat = 46 then { s with k := 1 }
  else if 48 ≤ c.toNat ∧ c.toNat ≤ 57 ∧ (if s.k = 0 then s.p else s.q) ≤ 1073741824 then
    (if s.k = 0 then { s with p := 10 * s.p + (c.toNat - 48 : Int) } else { s with q := 10 * s.q + (c.toNat - 48 : Int) })
  else s
def scan (l : List UInt8) : Sc := l.foldl Sc.step ⟨0, 0, 0⟩
def Sc.Ok (s : Sc) : Prop := s.k ≤ 1 ∧ 0 ≤ s.p ∧ s.p ≤ 10737418249 ∧ 0 ≤ s.q ∧ s.q ≤ 10737418249
theorem Sc.step_ok {s : Sc} (h : s.Ok) (c : UInt8) : (s.step c).Ok := by
  obtain ⟨k, p, q⟩ := s
  obtain ⟨h1, h2, h3, h4, h5⟩ := h
  simp only at h1 h2 h3 h4 h5
  unfold Sc.step
  by_cases e46 : c.toNat = 46
  · rw [if_pos e46]; exact ⟨Nat.le_refl _, h2, h3, h4, h5⟩
  rw [if_neg e46]
  by_cases hc : 48 ≤ c.toNat ∧ c.toNat ≤ 57 ∧ (if (Sc.mk k p q).k = 0 then (Sc.mk k p q).p else (Sc.mk k p q).q) ≤ 1073741824
  · rw [if_pos hc]
    obtain ⟨c1, c2, c3⟩ := hc
    by_cases hk : k = 0
    · rw [if_pos hk] at c3
      rw [if_pos hk]
      simp only at c3
      refine ⟨h1, ?_, ?_, h4, h5⟩ <;> simp only <;> omega
    · rw [if_neg hk] at c3
      rw [if_neg hk]
      simp only at c3
      refine ⟨h1, h2, h3, ?_, ?_⟩ <;> simp only <;> omega
  · rw [if_neg hc]; exact ⟨h1, h2, h3, h4, h5⟩
theorem foldl_ok : ∀ (l : List UInt8) (s : Sc), s.Ok → (l.foldl Sc.step s).Ok
  | [], s, h => h
  | c :: r, s, h => foldl_ok r _ (Sc.step_ok h c)
theorem scan_ok (l : List UInt8) : (scan l).Ok := foldl_ok l _ ⟨Nat.zero_le _, Int.le_refl _, by decide, Int.le_refl _, by decide⟩
theorem scan_take {l : List UInt8} {i : Nat} (h : i < l.length) : scan (l.take (i + 1)) = (scan (l.take i)).step l[i] := by
  unfold scan
  rw [List.take_succ_eq_append_getElem h, List.foldl_append]
  rfl
theorem step_p {p q : Int} {d : Nat} (hd : d < 10) (hp : p ≤ 1073741824) : (Sc.mk 0 p q).step (UInt8.ofNat (48 + d)) = ⟨0, 10 * p + d, q⟩ := by
  unfold Sc.step
  rw [dig_of hd, if_neg (by omega), if_pos ⟨by omega, by omega, by simpa using hp⟩]
  simp only [if_true]
  congr 1
  omega
theorem step_q {p q : Int} {d : Nat} (hd : d < 10) (hp : q ≤ 1073741824) : (Sc.mk 1 p q).step (UInt8.ofNat (48 + d)) = ⟨1, p, 10 * q + d⟩ := by
  unfold Sc.step
  rw [dig_of hd, if_neg (by omega), if_pos ⟨by omega, by omega, by simpa using hp⟩]
  simp only [if_neg (show ¬ (1 : Nat) = 0 from by decide)]
  congr 1
  omega
theorem fold_p (q : Int) : ∀ u : Nat, u ≤ 1073741824 → (Lib.decDigits u).foldl Sc.step ⟨0, 0, q⟩ = ⟨0, u, q⟩ := by
  intro u
  induction u using Nat.strongRecOn with
  | _ u ih =>
    intro hu
    by_cases h : u < 10
    · rw [Lib.decDigits_one h]
      show (Sc.mk 0 0 q).step _ = _
      rw [step_p h (by omega)]; congr 1; omega
    · rw [Lib.decDigits, dif_neg h, List.foldl_append, ih (u / 10) (by omega) (by omega)]
      show (Sc.mk 0 _ q).step _ = _
      rw [step_p (by omega) (by omega)]; congr 1; omega
theorem fold_q (p : Int) : ∀ u : Nat, u ≤ 1073741824 → (Lib.decDigits u).foldl Sc.step ⟨1, p, 0⟩ = ⟨1, p, u⟩ := by
  intro u
  induction u using Nat.strongRecOn with
  | _ u ih =>
    intro hu
    by_cases h : u < 10
    · rw [Lib.decDigits_one h]
      show (Sc.mk 1 p 0).step _ = _
      rw [step_q h (by omega)]; congr 1; omega
    · rw [Lib.decDigits, dif_neg h, List.foldl_append, ih (u / 10) (by omega) (by omega)]
      show (Sc.mk 1 p _).step _ = _
      rw [step_q (by omega) (by omega)]; congr 1; omega
theorem scan_txt {r n : Int} (h : vld r n 7 = true) : scan (txt r n) = ⟨1, r, n⟩ := by
  have hv := (vld_iff r n 7).1 h
  unfold scan txt
  rw [List.foldl_append, fold_p 0 r.toNat (by omega), List.foldl_cons]
  have : (Sc.mk 0 (r.toNat : Int) 0).step 46 = ⟨1, r.toNat, 0⟩ := rfl
  rw [this, fold_q _ n.toNat (by omega)]
  congr 1 <;> omega
theorem dec_len {u : Nat} (h : u ≤ 1073741824) : (Lib.decDigits u).length ≤ 10 := by
  rw [Lib.decDigits_length]
  have hb : ∀ (k u : Nat), u < 10 ^ (k + 1) → Lib.nDigits u ≤ k + 1 := by
    intro k
    induction k with
    | zero => intro u hu; rw [Lib.nDigits_small (by simpa using hu)]; omega
    | succ k ih =>
      intro u hu
      by_cases h : u < 10
      · rw [Lib.nDigits_small h]; omega
      · rw [Lib.nDigits_big h]
        have := ih (u / 10) (by rw [Nat.pow_succ] at hu; omega)
        omega
  exact hb 9 u (by omega)
theorem txt_len {r n : Int} (h : vld r n 7 = true) : (txt r n).length ≤ 12 ∧ 1 ≤ (txt r n).length := by
  have hv := (vld_iff r n 7).1 h
  unfold txt
  have h1 := dec_len (u := r.toNat) (by omega)
  have h2 : (Lib.decDigits n.toNat).length ≤ 1 := by rw [Lib.decDigits_one (by omega)]; simp
  simp only [List.length_append, List.length_cons]
  omega
def scanE (l : List UInt8) : Sc := if l.length ≤ 20 then scan l else ⟨0, 0, 0⟩
theorem scanE_ok (l : List UInt8) : (scanE l).Ok := by
  unfold scanE; split
  · exact scan_ok l
  · exact ⟨Nat.zero_le _, Int.le_refl _, by decide, Int.le_refl _, by decide⟩
theorem prs_ref (l : List UInt8) : (if vld (scanE l).p (scanE l).q 7 = true ∧ txt (scanE l).p (scanE l).q = l then ((scanE l).p, (scanE l).q, (0 : Int)) else (0, 0, 10)) = prs l := by
  refine prs_if _ _ l fun r n hv ht => ?_
  subst ht
  unfold scanE
  rw [if_pos (by have := (txt_len hv).1; omega), scan_txt hv]
  exact ⟨rfl, rfl⟩
end Go.Proofs.YtlinjanflenljaaGreatDoor
