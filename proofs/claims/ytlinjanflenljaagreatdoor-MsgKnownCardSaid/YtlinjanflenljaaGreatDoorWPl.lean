/- The bytes of numbers, and what readers read: plain Lean, no program in sight. -/
namespace Go.Proofs.YtlinjanflenljaaGreatDoor
/-- The bytes of a number. -/
def enc (n : Nat) : List UInt8 :=
  if n < 128 then [UInt8.ofNat n] else UInt8.ofNat (n % 128 + 128) :: enc (n / 128)
termination_by n
decreasing_by omega
theorem enc_lt {n : Nat} (h : n < 128) : enc n = [UInt8.ofNat n] := by rw [enc, if_pos h]
theorem enc_ge {n : Nat} (h : 128 ≤ n) : enc n = UInt8.ofNat (n % 128 + 128) :: enc (n / 128) := by rw [enc, if_neg (by omega)]
theorem ofNat_toNat {n : Nat} (h : n < 256) : (UInt8.ofNat n).toNat = n := by rw [UInt8.toNat_ofNat']; exact Nat.mod_eq_of_lt h

def decGo (i acc : Nat) : List UInt8 → Option (Nat × Nat)
  | [] => none
  | c :: cs =>
    if (i = 9 ∧ 1 < c.toNat) ∨ (0 < i ∧ c.toNat = 0) then none
    else if c.toNat < 128 then some (acc + c.toNat % 128 * 2 ^ (7 * i), i + 1)
    else decGo (i + 1) (acc + c.toNat % 128 * 2 ^ (7 * i)) cs
def dec (l : List UInt8) : Option (Nat × Nat) := decGo 0 0 l

theorem pow_step (i : Nat) : 2 ^ (7 * (i + 1)) = 128 * 2 ^ (7 * i) := by
  rw [show 7 * (i + 1) = 7 * i + 7 from by omega, Nat.pow_add]; omega
theorem enc_ne_nil (n : Nat) : enc n ≠ [] := by
  rcases Nat.lt_or_ge n 128 with h | h
  · rw [enc_lt h]; simp
  · rw [enc_ge h]; simp
theorem enc_len_pos (n : Nat) : 0 < (enc n).length := List.length_pos_iff.2 (enc_ne_nil n)

theorem enc_len_pow (k : Nat) : ∀ n, n < 128 ^ (k + 1) → (enc n).length ≤ k + 1 := by
  induction k with
  | zero => intro n h; rw [enc_lt (by simpa using h)]; simp
  | succ k ih =>
    intro n h
    rcases Nat.lt_or_ge n 128 with q | q
    · rw [enc_lt q]; simp
    · rw [enc_ge q, List.length_cons]
      have := ih (n / 128) (by rw [Nat.pow_succ] at h; exact Nat.div_lt_of_lt_mul (by rw [Nat.mul_comm]; exact h))
      omega
theorem enc_len {n : Nat} (h : n < 18446744073709551616) : (enc n).length ≤ 10 := enc_len_pow 9 n (by omega)

theorem decGo_enc (m : Nat) : ∀ (i acc : Nat) (rest : List UInt8), m * 2 ^ (7 * i) < 2 ^ 64 → (0 < i → 0 < m) → i ≤ 9 →
    decGo i acc (enc m ++ rest) = some (acc + m * 2 ^ (7 * i), i + (enc m).length) := by
  induction m using Nat.strongRecOn with
  | _ m ih =>
    intro i acc rest hb hp hi
    rcases Nat.lt_or_ge m 128 with h | h
    · rw [enc_lt h]
      have hm := ofNat_toNat (n := m) (by omega)
      have h9 : i = 9 → m ≤ 1 := by intro e; subst e; omega
      simp only [List.cons_append, List.nil_append, decGo, hm]
      rw [if_neg (by omega), if_pos h, Nat.mod_eq_of_lt h]
      simp
    · rw [enc_ge h]
      have hm := ofNat_toNat (n := m % 128 + 128) (by omega)
      have h9 : i < 9 := by
        rcases Nat.lt_or_ge i 9 with q | q
        · exact q
        · have : i = 9 := by omega
          subst this; omega
      simp only [List.cons_append, decGo, hm]
      rw [if_neg (by omega), if_neg (by omega)]
      have hs := pow_step i
      have hle : m / 128 * 2 ^ (7 * (i + 1)) ≤ m * 2 ^ (7 * i) := by
        rw [hs, ← Nat.mul_assoc]
        exact Nat.mul_le_mul_right _ (by omega)
      rw [ih (m / 128) (by omega) (i + 1) _ rest (by omega) (by omega) (by omega)]
      congr 1
      refine Prod.ext ?_ ?_
      · show acc + (m % 128 + 128) % 128 * 2 ^ (7 * i) + m / 128 * 2 ^ (7 * (i + 1)) = acc + m * 2 ^ (7 * i)
        rw [hs, ← Nat.mul_assoc, Nat.add_assoc, ← Nat.add_mul]
        congr 2
        omega
      · simp; omega
theorem dec_enc {n : Nat} (h : n < 2 ^ 64) (rest : List UInt8) : dec (enc n ++ rest) = some (n, (enc n).length) := by
  unfold dec
  rw [decGo_enc n 0 0 rest (by omega) (by omega) (by omega)]
  simp

theorem decGo_sound : ∀ (l : List UInt8) (i acc n k : Nat), i ≤ 9 → decGo i acc l = some (n, k) →
    ∃ m, n = acc + m * 2 ^ (7 * i) ∧ enc m = l.take (k - i) ∧ i < k ∧ k ≤ i + l.length ∧ m * 2 ^ (7 * i) < 2 ^ 64 ∧ (0 < i → 0 < m) ∧ k ≤ 10 := by
  intro l
  induction l with
  | nil => intro i acc n k _ h; simp [decGo] at h
  | cons c cs ih =>
    intro i acc n k hi h
    rw [decGo] at h
    have hc := c.toNat_lt
    split at h
    · cases h
    · rename_i h0
      have hpw : 2 ^ (7 * i) ≤ 2 ^ 63 := Nat.pow_le_pow_right (by omega) (by omega)
      have hpp : 0 < 2 ^ (7 * i) := Nat.pow_pos (by omega)
      split at h
      · rename_i h1
        have h2 := Option.some.inj h
        simp only [Prod.mk.injEq] at h2
        obtain ⟨rfl, rfl⟩ := h2
        refine ⟨c.toNat, by rw [Nat.mod_eq_of_lt h1], ?_, by omega, by simp, ?_, by omega, by omega⟩
        · rw [enc_lt h1, show i + 1 - i = 1 from by omega]; simp
        · rcases Nat.lt_or_ge i 9 with q | q
          · have h56 : 2 ^ (7 * i) ≤ 2 ^ 56 := Nat.pow_le_pow_right (by omega) (by omega)
            have : c.toNat * 2 ^ (7 * i) ≤ 127 * 2 ^ 56 := Nat.mul_le_mul (by omega) h56
            omega
          · have : i = 9 := by omega
            subst this
            omega
      · rename_i h1
        have hi9 : i < 9 := by
          rcases Nat.lt_or_ge i 9 with q | q
          · exact q
          · omega
        obtain ⟨m, e1, e2, e3, e4, e5, e6, e7⟩ := ih (i + 1) _ n k (by omega) h
        have hm := e6 (by omega)
        have hs := pow_step i
        have hmm : (c.toNat % 128 + 128 * m) / 128 = m := by omega
        refine ⟨c.toNat % 128 + 128 * m, ?_, ?_, by omega, by simp; omega, ?_, by omega, e7⟩
        · rw [e1, hs, Nat.add_assoc, Nat.add_mul, ← Nat.mul_assoc, Nat.mul_comm m 128]
        · rw [enc_ge (by omega), hmm, e2, show k - i = (k - (i + 1)) + 1 from by omega, List.take_succ_cons]
          congr 1
          rw [show (c.toNat % 128 + 128 * m) % 128 + 128 = c.toNat from by omega]
          exact UInt8.ofNat_toNat
        · have h1 : m * 2 ^ (7 * (i + 1)) + 2 ^ (7 * (i + 1)) ≤ 2 ^ 64 := by
            have hd : 2 ^ (7 * (i + 1)) ∣ 2 ^ 64 ∨ i = 8 ∨ True := .inr (.inr trivial)
            have hdiv : 2 ^ 64 = 2 ^ (64 - 7 * (i + 1)) * 2 ^ (7 * (i + 1)) := by rw [← Nat.pow_add]; congr 1; omega
            rw [hdiv] at e5 ⊢
            have h3 : m < 2 ^ (64 - 7 * (i + 1)) := Nat.lt_of_mul_lt_mul_right e5
            have h4 : (m + 1) * 2 ^ (7 * (i + 1)) ≤ 2 ^ (64 - 7 * (i + 1)) * 2 ^ (7 * (i + 1)) := Nat.mul_le_mul_right _ h3
            rw [Nat.add_mul, Nat.one_mul] at h4
            exact h4
          have h2 : (c.toNat % 128 + 128 * m) * 2 ^ (7 * i) + 2 ^ (7 * i) ≤ m * 2 ^ (7 * (i + 1)) + 2 ^ (7 * (i + 1)) := by
            rw [hs, Nat.add_mul]
            have h5 : 128 * m * 2 ^ (7 * i) = m * (128 * 2 ^ (7 * i)) := by rw [Nat.mul_comm 128 m, Nat.mul_assoc]
            have h6 : (c.toNat % 128 + 1) * 2 ^ (7 * i) ≤ 128 * 2 ^ (7 * i) := Nat.mul_le_mul_right _ (by omega)
            rw [Nat.add_mul, Nat.one_mul] at h6
            omega
          omega
theorem dec_sound {l : List UInt8} {n k : Nat} (h : dec l = some (n, k)) : n < 2 ^ 64 ∧ enc n = l.take k ∧ 0 < k ∧ k ≤ l.length ∧ k ≤ 10 := by
  obtain ⟨m, e1, e2, e3, e4, e5, _, e7⟩ := decGo_sound l 0 0 n k (by omega) h
  simp at e1 e2 e4 e5
  subst e1
  exact ⟨e5, e2, e3, e4, e7⟩
theorem dec_none {l : List UInt8} (h : dec l = none) : ∀ n < 2 ^ 64, ∀ k, enc n ≠ l.take k := by
  intro n hn k e
  have := dec_enc hn (l.drop k)
  rw [e, List.take_append_drop, h] at this
  cases this
/-- Signed numbers as unsigned ones. -/
def zig (a : Int) : Nat := if a < 0 then (2 * (-(a + 1)) + 1).toNat else (2 * a).toNat
def zag (u : Nat) : Int := if u % 2 = 1 then -((u / 2 : Nat) : Int) - 1 else ((u / 2 : Nat) : Int)
theorem zag_zig (a : Int) : zag (zig a) = a := by unfold zig zag; split <;> split <;> omega
theorem zig_zag (u : Nat) : zig (zag u) = u := by unfold zig zag; split <;> split <;> omega
theorem zig_lt {a : Int} (h1 : -9223372036854775808 ≤ a) (h2 : a ≤ 9223372036854775807) : zig a < 18446744073709551616 := by unfold zig; split <;> omega
theorem zag_in {u : Nat} (h : u < 18446744073709551616) : -9223372036854775808 ≤ zag u ∧ zag u ≤ 9223372036854775807 := by unfold zag; split <;> omega

/-- A reader: what is left; none: it has failed. -/
abbrev RS := Option (List UInt8)
def rdU : RS → Nat × RS
  | none => (0, none)
  | some b => match dec b with
    | some (n, k) => (n, some (b.drop k))
    | none => (0, none)
def rdI (r : RS) : Int × RS := (zag (rdU r).1, (rdU r).2)
def rdT (r : RS) : List UInt8 × RS :=
  match rdU r with
  | (_, none) => ([], none)
  | (n, some b) => if 65536 < n ∨ b.length < n then ([], none) else (b.take n, some (b.drop n))
def rdB (r : RS) : Bool × RS :=
  match rdU r with
  | (_, none) => (false, none)
  | (n, some b) => if 1 < n then (false, none) else (n == 1, some b)
def left : RS → List UInt8
  | none => []
  | some b => b
def endE : RS → Int
  | none => 4
  | some b => if b = [] then 0 else 4
end Go.Proofs.YtlinjanflenljaaGreatDoor
