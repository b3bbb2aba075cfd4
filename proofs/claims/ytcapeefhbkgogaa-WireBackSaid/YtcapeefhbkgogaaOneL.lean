/- What is read, and written again: the plain law. -/
import Derived.Test.YtcapeefhbkgogaaPut
import Derived.Test.YtcapeefhbkgogaaWritesW
namespace Go.Proofs.Ytcapeefhbkgogaa
open Go.RowKit
set_option linter.unusedVariables false
theorem wrap64_zag {u : Nat} (h : u < 18446744073709551616) : zig (wrap64 ((IntKind.u64.wrap (zag u)).toNat)) = u := by
  have h1 := zag_in h
  have h2 : wrap64 (((IntKind.u64.wrap (zag u)).toNat : Nat) : Int) = zag u := by
    rw [wrapU_nat, wrapU]
    unfold wrap64
    omega
  rw [h2, zig_zag]
/-- A value that is read and written again has the bytes that were read; or the reader has failed. -/
theorem get_zero {s : RS} {k : Nat} (hk : k < 256) (h1 : (rdU s).1 = 0) (h2 : (IntKind.u64.wrap (rdI s).1).toNat = 0) (h3 : strOf (rdT s).1 = ByteArray.empty) (h4 : (rdB s).1 = false) : VV.Ok (getV s k) ∧ (getV s k).s.size ≤ 65536 := by
  have hg : getV s k = ⟨k, 0, ByteArray.empty⟩ := by
    unfold getV
    rw [h1, h2, h3, h4]
    split
    · rfl
    · split
      · rfl
      · split
        · rfl
        · simp
  rw [hg]
  exact ⟨⟨hk, by simp, by simp⟩, by simp⟩
theorem get_back (b : List UInt8) (k : Nat) (hk : k < 256) : (getS (some b) k = none ∧ VV.Ok (getV (some b) k) ∧ (getV (some b) k).s.size ≤ 65536) ∨ ∃ r, getS (some b) k = some r ∧ b = encV (getV (some b) k) ++ r ∧ VV.Ok (getV (some b) k) ∧ (getV (some b) k).s.size ≤ 65536 ∧ r.length < b.length := by
  rcases dec_or b with hd | ⟨v, n, hd⟩
  · left
    refine ⟨?_, get_zero hk (by rw [rdU_bad hd]) (by rw [rdI_eq, rdU_bad hd]; decide) (by rw [rdT_bad hd]; rfl) (by rw [rdB_bad hd])⟩
    unfold getS
    rw [rdU_bad hd, rdI_eq, rdU_bad hd, rdT_bad hd, rdB_bad hd]
    simp
  · obtain ⟨hv, he, hn0, hn, _⟩ := dec_sound hd
    have hv' : v < 18446744073709551616 := by omega
    have hsplit : b = enc v ++ b.drop n := by rw [he, List.take_append_drop]
    have hlen : (b.drop n).length < b.length := by rw [List.length_drop]; omega
    have hz := zag_in hv'
    by_cases h0 : k % 4 = 0
    · right
      have hs : getS (some b) k = some (b.drop n) := by unfold getS; rw [if_pos h0, rdU_ok hd]
      have hg : getV (some b) k = ⟨k, v, ByteArray.empty⟩ := by unfold getV; rw [if_pos h0, rdU_ok hd]
      refine ⟨b.drop n, hs, ?_, ?_, ?_, hlen⟩
      · rw [hg]; unfold encV; simp only []; rw [if_pos h0]; exact hsplit
      · rw [hg]; exact ⟨hk, hv', by simp⟩
      · rw [hg]; simp
    by_cases h1 : k % 4 = 1
    · right
      have hw : (IntKind.u64.wrap (zag v)).toNat < 18446744073709551616 := by rw [wrapU]; omega
      have hs : getS (some b) k = some (b.drop n) := by unfold getS; rw [if_neg h0, if_pos h1, rdI_eq, rdU_ok hd]
      have hg : getV (some b) k = ⟨k, (IntKind.u64.wrap (zag v)).toNat, ByteArray.empty⟩ := by unfold getV; rw [if_neg h0, if_pos h1, rdI_eq, rdU_ok hd]
      refine ⟨b.drop n, hs, ?_, ?_, ?_, hlen⟩
      · rw [hg]; unfold encV; simp only []; rw [if_neg h0, if_pos h1, wrap64_zag hv']; exact hsplit
      · rw [hg]; exact ⟨hk, hw, by simp⟩
      · rw [hg]; simp
    by_cases h2 : k % 4 = 2
    · by_cases hb : 65536 < v ∨ b.length - n < v
      · left
        have hg : getV (some b) k = ⟨k, 0, ByteArray.empty⟩ := by unfold getV; rw [if_neg h0, if_neg h1, if_pos h2, rdT_big hd hb]; rfl
        rw [hg]
        refine ⟨?_, ⟨hk, by simp, by simp⟩, by simp⟩
        unfold getS; rw [if_neg h0, if_neg h1, if_pos h2, rdT_big hd hb]
      · right
        have hsz : (strOf ((b.drop n).take v)).size = v := by
          show ((b.drop n).take v).toArray.size = v
          rw [List.size_toArray, List.length_take, List.length_drop]; omega
        have hs : getS (some b) k = some (b.drop (n + v)) := by unfold getS; rw [if_neg h0, if_neg h1, if_pos h2, rdT_ok hd hb]
        have hg : getV (some b) k = ⟨k, 0, strOf ((b.drop n).take v)⟩ := by unfold getV; rw [if_neg h0, if_neg h1, if_pos h2, rdT_ok hd hb]
        refine ⟨b.drop (n + v), hs, ?_, ?_, ?_, by rw [List.length_drop]; omega⟩
        · rw [hg]; unfold encV; simp only []; rw [if_neg h0, if_neg h1, if_pos h2, hsz]
          have e1 : (strOf ((b.drop n).take v)).data.toList = (b.drop n).take v := rfl
          rw [e1]
          conv => lhs; rw [hsplit]
          rw [List.append_assoc]
          congr 1
          rw [← List.drop_drop, List.take_append_drop]
        · rw [hg]; exact ⟨hk, by simp, by simp only [hsz]; omega⟩
        · rw [hg]; simp only [hsz]; omega
    · have h3 : k % 4 = 3 := by omega
      by_cases hb : 1 < v
      · left
        have hg : getV (some b) k = ⟨k, 0, ByteArray.empty⟩ := by unfold getV; rw [if_neg h0, if_neg h1, if_neg h2, rdB_big hd hb]; rfl
        rw [hg]
        refine ⟨?_, ⟨hk, by simp, by simp⟩, by simp⟩
        unfold getS; rw [if_neg h0, if_neg h1, if_neg h2, rdB_big hd hb]
      · right
        have hx : (if (v == 1) = true then 1 else 0) = v := by
          by_cases q : v = 1
          · simp [q]
          · rw [if_neg (by simpa using q)]; omega
        have hs : getS (some b) k = some (b.drop n) := by unfold getS; rw [if_neg h0, if_neg h1, if_neg h2, rdB_ok hd hb]
        have hg : getV (some b) k = ⟨k, v, ByteArray.empty⟩ := by
          unfold getV; rw [if_neg h0, if_neg h1, if_neg h2, rdB_ok hd hb]; simp only []; rw [hx]
        refine ⟨b.drop n, hs, ?_, ?_, ?_, hlen⟩
        · rw [hg]; unfold encV; simp only []; rw [if_neg h0, if_neg h1, if_neg h2]
          rw [show v % 2 = v from by omega]; exact hsplit
        · rw [hg]; exact ⟨hk, hv', by simp⟩
        · rw [hg]; simp
end Go.Proofs.Ytcapeefhbkgogaa
