/- Sums, in plain words: two words of 64 bits, and an upper and a lower part, make the sum. -/
import Derived.Test.YthmkfbabacehnaaDoorKit
namespace Go.Proofs.YthmkfbabacehnaaDoor
set_option linter.unusedSimpArgs false
set_option linter.unusedVariables false
def okV (x : Int) : Bool := decide (-1152921504606846976 ≤ x) && decide (x ≤ 1152921504606846976)
theorem okV_iff (x : Int) : okV x = true ↔ -1152921504606846976 ≤ x ∧ x ≤ 1152921504606846976 := by simp [okV]
def sumC (l : List Int) : Int × Int :=
  if 10000 < l.length then (0, 12) else if l.all okV then (if okV l.sum then (l.sum, 0) else (0, 7)) else (0, 7)
theorem sum_take {l : List Int} {k : Nat} {x : Int} (h : l[k]? = some x) : (l.take (k + 1)).sum = (l.take k).sum + x := by
  rw [List.take_add_one, h, List.sum_append]; simp
theorem okV_take {l : List Int} {k : Nat} {x : Int} (h : l[k]? = some x) : (l.take (k + 1)).all okV = ((l.take k).all okV && okV x) := by
  rw [List.take_add_one, h, List.all_append]; simp
theorem sum_bound : ∀ l : List Int, l.all okV = true → -1152921504606846976 * (l.length : Int) ≤ l.sum ∧ l.sum ≤ 1152921504606846976 * (l.length : Int)
  | [], _ => by simp
  | x :: l, h => by
    simp only [List.all_cons, Bool.and_eq_true] at h
    have h1 := (okV_iff x).1 h.1
    have h2 := sum_bound l h.2
    simp only [List.sum_cons, List.length_cons]
    omega
theorem all_bad {l : List Int} {k : Nat} {x : Int} (h : l[k]? = some x) (hb : ¬ okV x = true) : ¬ l.all okV = true := fun ha => hb (List.all_eq_true.1 ha x (List.mem_of_getElem? h))
/-- Two words hold a sum. -/
def Two64 (lo hi : Nat) (S : Int) : Prop := lo < 18446744073709551616 ∧ hi < 18446744073709551616 ∧ ∃ q : Int, (lo : Int) + 18446744073709551616 * hi = S + 340282366920938463463374607431768211456 * q
theorem two_nil : Two64 0 0 0 := ⟨by omega, by omega, 0, by omega⟩
/-- An upper and a lower part hold a sum. -/
def Parts (hi lo S : Int) (k : Nat) : Prop := S = 4294967296 * hi + lo ∧ 0 ≤ lo ∧ lo ≤ 4294967296 * (k : Int) ∧ -268435456 * (k : Int) ≤ hi ∧ hi ≤ 268435456 * (k : Int)
theorem two_add {lo hi : Nat} {S : Int} (h : Two64 lo hi S) {x : Int} (hx : okV x = true) {u v : Nat} (hu : (u : Int) = x % 18446744073709551616) (hv : (v : Int) = if x < 0 then 18446744073709551615 else 0) :
    Two64 ((lo + u + 0) % 18446744073709551616) ((hi + v + (lo + u + 0) / 18446744073709551616) % 18446744073709551616) (S + x) := by
  obtain ⟨h1, h2, q, hq⟩ := h
  have hx := (okV_iff x).1 hx
  by_cases hn : x < 0
  · rw [if_pos hn] at hv
    have hu' : (u : Int) = x + 18446744073709551616 := by omega
    obtain rfl : v = 18446744073709551615 := by omega
    refine ⟨Nat.mod_lt _ (by omega), Nat.mod_lt _ (by omega), ?_⟩
    generalize hA : (lo + u + 0) / 18446744073709551616 = A
    generalize hB : (lo + u + 0) % 18446744073709551616 = B
    generalize hC : (hi + 18446744073709551615 + A) / 18446744073709551616 = C
    generalize hD : (hi + 18446744073709551615 + A) % 18446744073709551616 = D
    refine ⟨q + 1 - C, ?_⟩
    omega
  · rw [if_neg hn] at hv
    have hu' : (u : Int) = x := by omega
    obtain rfl : v = 0 := by omega
    refine ⟨Nat.mod_lt _ (by omega), Nat.mod_lt _ (by omega), ?_⟩
    generalize hA : (lo + u + 0) / 18446744073709551616 = A
    generalize hB : (lo + u + 0) % 18446744073709551616 = B
    generalize hC : (hi + 0 + A) / 18446744073709551616 = C
    generalize hD : (hi + 0 + A) % 18446744073709551616 = D
    refine ⟨q - C, ?_⟩
    omega
/-- What the two words say of a sum that is not too great. -/
theorem two_end {lo hi : Nat} {S : Int} (h : Two64 lo hi S) (hS : -11529215046068469760000 ≤ S ∧ S ≤ 11529215046068469760000) :
    (lo < 9223372036854775808 → (hi = 0 ↔ (-9223372036854775808 ≤ S ∧ S < 9223372036854775808)) ∧ (hi = 0 → S = lo)) ∧
    (9223372036854775808 ≤ lo → (hi = 18446744073709551615 ↔ (-9223372036854775808 ≤ S ∧ S < 9223372036854775808)) ∧ (hi = 18446744073709551615 → S = (lo : Int) - 18446744073709551616)) := by
  obtain ⟨h1, h2, q, hq⟩ := h
  have hq0 : q = 0 ∨ q = 1 := by omega
  rcases hq0 with rfl | rfl <;> refine ⟨fun hl => ⟨⟨fun e => ?_, fun e => ?_⟩, fun e => ?_⟩, fun hl => ⟨⟨fun e => ?_, fun e => ?_⟩, fun e => ?_⟩⟩ <;> omega
end Go.Proofs.YthmkfbabacehnaaDoor
