/- What was written is read again; what is cut off is not: the plain laws; the helper plain. -/
import Derived.Test.YtcapeefhbkgogaaOneL
import Derived.Test.YtcapeefhbkgogaaFailsW
namespace Go.Proofs.Ytcapeefhbkgogaa
open Go.RowKit
set_option linter.unusedSimpArgs false
set_option linter.unusedVariables false
set_option linter.unusedSectionVars false
set_option maxRecDepth 10000
/-- The value that stands for all with its bytes. -/
def plainV (v : VV) : VV := if v.k % 4 = 2 then ⟨v.k, 0, v.s⟩ else if v.k % 4 = 3 then ⟨v.k, v.n % 2, ByteArray.empty⟩ else ⟨v.k, v.n, ByteArray.empty⟩
theorem wrap64_u {n : Nat} (h : n < 18446744073709551616) : (IntKind.u64.wrap (wrap64 n)).toNat = n := by
  rw [wrapU]
  unfold wrap64
  omega
theorem get_enc (v : VV) (hv : v.Ok) (hs : v.s.size ≤ 65536) (r : List UInt8) : getS (some (encV v ++ r)) v.k = some r ∧ getV (some (encV v ++ r)) v.k = plainV v := by
  have hn := hv.n
  by_cases h0 : v.k % 4 = 0
  · have he : encV v = enc v.n := by unfold encV; rw [if_pos h0]
    have hd := dec_enc (n := v.n) (by omega) r
    refine ⟨?_, ?_⟩
    · unfold getS; rw [if_pos h0, he, rdU_ok hd, List.drop_left]
    · unfold getV plainV; rw [if_pos h0, he, rdU_ok hd, if_neg (by omega), if_neg (by omega)]
  by_cases h1 : v.k % 4 = 1
  · have he : encV v = enc (zig (wrap64 v.n)) := by unfold encV; rw [if_neg h0, if_pos h1]
    have hd := dec_enc (n := zig (wrap64 v.n)) (zig_lt (wrap64_in v.n).1 (wrap64_in v.n).2) r
    refine ⟨?_, ?_⟩
    · unfold getS; rw [if_neg h0, if_pos h1, he, rdI_eq, rdU_ok hd, List.drop_left]
    · unfold getV plainV; rw [if_neg h0, if_pos h1, he, rdI_eq, rdU_ok hd, if_neg (by omega), if_neg (by omega)]
      have : zag (zig (wrap64 v.n)) = wrap64 v.n := zag_zig _
      rw [this, wrap64_u hn]
  by_cases h2 : v.k % 4 = 2
  · have he : encV v ++ r = enc v.s.size ++ (v.s.data.toList ++ r) := by unfold encV; rw [if_neg h0, if_neg h1, if_pos h2, List.append_assoc]
    have hl : v.s.data.toList.length = v.s.size := by rw [Array.length_toList]; rfl
    have hd := dec_enc (n := v.s.size) (by omega) (v.s.data.toList ++ r)
    have hb : ¬ (65536 < v.s.size ∨ (enc v.s.size ++ (v.s.data.toList ++ r)).length - (enc v.s.size).length < v.s.size) := by
      rw [List.length_append, List.length_append, hl]; omega
    have ht := rdT_ok hd hb
    have e1 : (enc v.s.size ++ (v.s.data.toList ++ r)).drop ((enc v.s.size).length + v.s.size) = r := by
      rw [← List.drop_drop, List.drop_left, List.drop_append_of_le_length (by omega), List.drop_of_length_le (by omega)]; rfl
    have e2 : ((enc v.s.size ++ (v.s.data.toList ++ r)).drop (enc v.s.size).length).take v.s.size = v.s.data.toList := by
      rw [List.drop_left, List.take_append_of_le_length (by omega), List.take_of_length_le (by omega)]
    rw [he]
    refine ⟨?_, ?_⟩
    · unfold getS; rw [if_neg h0, if_neg h1, if_pos h2, ht]; simp only []; rw [e1]
    · unfold getV plainV; rw [if_neg h0, if_neg h1, if_pos h2, ht, if_pos h2]; simp only []; rw [e2]; rfl
  · have he : encV v = enc (v.n % 2) := by unfold encV; rw [if_neg h0, if_neg h1, if_neg h2]
    have hd := dec_enc (n := v.n % 2) (by omega) r
    have hb : ¬ 1 < v.n % 2 := by omega
    refine ⟨?_, ?_⟩
    · unfold getS; rw [if_neg h0, if_neg h1, if_neg h2, he, rdB_ok hd hb, List.drop_left]
    · unfold getV plainV; rw [if_neg h0, if_neg h1, if_neg h2, he, rdB_ok hd hb]
      have h3 : v.k % 4 = 3 := by omega
      have hx : (if (v.n % 2 == 1) = true then 1 else 0) = v.n % 2 := by
        by_cases q : v.n % 2 = 1
        · simp [q]
        · rw [if_neg (by simpa using q)]; omega
      simp only []
      rw [hx, if_neg h2, if_pos h3]
theorem dec_short {n : Nat} (h : n < 2 ^ 64) : dec (enc n).dropLast = none := by
  rcases dec_or (enc n).dropLast with hd | ⟨v, k, hd⟩
  · exact hd
  · exfalso
    obtain ⟨hv, he, hk0, hk, _⟩ := dec_sound hd
    have h1 := dec_enc hv ((enc n).drop k)
    have e1 : (enc n).dropLast.take k = (enc n).take k := by
      rw [List.dropLast_eq_take, List.take_take, Nat.min_eq_left]
      rw [List.length_dropLast] at hk; exact hk
    have h2 := dec_enc h []
    rw [he, e1, List.take_append_drop] at h1
    rw [List.append_nil] at h2
    rw [h2] at h1
    simp only [Option.some.injEq, Prod.mk.injEq] at h1
    have : (enc v).length = (enc n).length := by rw [he, e1, ← h1.2]
    have hp := enc_len_pos n
    rw [List.length_dropLast] at hk
    have h3 : ((enc n).take k).length = (enc n).length := by rw [← e1, ← he]; exact this
    rw [List.length_take] at h3
    omega
theorem get_short (v : VV) (hv : v.Ok) (hs : v.s.size ≤ 65536) : getS (some (encV v).dropLast) v.k = none := by
  have hn := hv.n
  by_cases h0 : v.k % 4 = 0
  · have he : encV v = enc v.n := by unfold encV; rw [if_pos h0]
    unfold getS; rw [if_pos h0, he, rdU_bad (dec_short (by omega))]
  by_cases h1 : v.k % 4 = 1
  · have he : encV v = enc (zig (wrap64 v.n)) := by unfold encV; rw [if_neg h0, if_pos h1]
    unfold getS; rw [if_neg h0, if_pos h1, he, rdI_eq, rdU_bad (dec_short (zig_lt (wrap64_in v.n).1 (wrap64_in v.n).2))]
  by_cases h2 : v.k % 4 = 2
  · have he : encV v = enc v.s.size ++ v.s.data.toList := by unfold encV; rw [if_neg h0, if_neg h1, if_pos h2]
    have hl : v.s.data.toList.length = v.s.size := by rw [Array.length_toList]; rfl
    unfold getS; rw [if_neg h0, if_neg h1, if_pos h2, he]
    by_cases hz : v.s.data.toList = []
    · rw [hz, List.append_nil, rdT_bad (dec_short (by omega))]
    · rw [List.dropLast_append_of_ne_nil hz]
      have hd := dec_enc (n := v.s.size) (by omega) v.s.data.toList.dropLast
      have hp := List.length_pos_iff.2 hz
      rw [rdT_big hd (.inr (by rw [List.length_append, List.length_dropLast, hl]; omega))]
  · have he : encV v = enc (v.n % 2) := by unfold encV; rw [if_neg h0, if_neg h1, if_neg h2]
    unfold getS; rw [if_neg h0, if_neg h1, if_neg h2, he, rdB_bad (dec_short (by omega))]
theorem encV_ne (v : VV) : encV v ≠ [] := by
  unfold encV
  split
  · exact enc_ne_nil _
  · split
    · exact enc_ne_nil _
    · split
      · simp [enc_ne_nil]
      · exact enc_ne_nil _
/-- The reader behind the values vs, with their kinds. -/
def getVs (s : RS) (vs : List VV) : RS := vs.foldl (fun s v => getS s v.k) s
theorem getVs_none (vs : List VV) : getVs none vs = none := by
  induction vs with
  | nil => rfl
  | cons v vs ih => simp only [getVs, List.foldl_cons, getS_none] at *; exact ih
theorem encs_cons (v : VV) (vs : List VV) : encs (v :: vs) = encV v ++ encs vs := by simp [encs]
theorem encs_ne {vs : List VV} (h : vs ≠ []) : encs vs ≠ [] := by
  cases vs with
  | nil => exact absurd rfl h
  | cons v vs => rw [encs_cons]; simp [encV_ne]
theorem getVs_short (vs : List VV) (hv : ∀ v ∈ vs, VV.Ok v) (hs : ∀ v ∈ vs, v.s.size ≤ 65536) (hne : vs ≠ []) : getVs (some (encs vs).dropLast) vs = none := by
  induction vs with
  | nil => exact absurd rfl hne
  | cons v vs ih =>
    have q1 := hv v (List.mem_cons_self ..)
    have q2 := hs v (List.mem_cons_self ..)
    rw [encs_cons]
    by_cases hz : vs = []
    · subst hz
      have : encs [] = [] := rfl
      rw [this, List.append_nil]
      simp only [getVs, List.foldl_cons, List.foldl_nil]
      exact get_short v q1 q2
    · rw [List.dropLast_append_of_ne_nil (encs_ne hz)]
      have := (get_enc v q1 q2 (encs vs).dropLast).1
      simp only [getVs, List.foldl_cons, this]
      exact ih (fun u hu => hv u (List.mem_cons_of_mem _ hu)) (fun u hu => hs u (List.mem_cons_of_mem _ hu)) hz
theorem getVs_take {s : RS} {vs : List VV} {i : Nat} {v : VV} (h : vs[i]? = some v) : getVs s (vs.take (i + 1)) = getS (getVs s (vs.take i)) v.k := by
  obtain ⟨hi, rfl⟩ := List.getElem?_eq_some_iff.1 h
  rw [List.take_succ_eq_append_getElem hi]
  simp only [getVs, List.foldl_append, List.foldl_cons, List.foldl_nil]
theorem encs_drop {vs : List VV} {i : Nat} {v : VV} (h : vs[i]? = some v) : encs (vs.drop i) = encV v ++ encs (vs.drop (i + 1)) := by
  obtain ⟨hi, rfl⟩ := List.getElem?_eq_some_iff.1 h
  rw [List.drop_eq_getElem_cons hi, encs_cons]
set_option maxHeartbeats 2000000 in
theorem plain_any (v : VV) (hv : v.Ok) (w : World) : Calls Try.prog 41 #[.agg #[.int .u8 v.k, .int .u64 v.n, .string v.s]] w fun e w' => e = .returned (plainV v).val' ∧ Below w.heap.size w w' := by
  have hk := hv.k
  have hn := hv.n
  by_cases q2 : v.k % 4 = 2
  · have b2 : ((v.k : Int) % 4 == 2) = true := by simp; omega
    have e : plainV v = ⟨v.k, 0, v.s⟩ := by unfold plainV; rw [if_pos q2]
    go_enter Try.func41, Try.ntmps41
    go_wp2_with (fail)
    refine bodyPost_ret (by simp [results, Try.results41, go_sem, *]; try with_reducible rfl) rfl ?_
    exact ⟨by rw [e]; rfl, (by repeat (first | exact Below.refl _ _ | assumption | (refine Below.setCell ?_ (by simp) _) | (refine Below.alloc ?_ (by simp) _)))⟩
  by_cases q3 : v.k % 4 = 3
  · have b2 : ((v.k : Int) % 4 == 2) = false := by simp; omega
    have b3 : ((v.k : Int) % 4 == 3) = true := by simp; omega
    have e : plainV v = ⟨v.k, v.n % 2, ByteArray.empty⟩ := by unfold plainV; rw [if_neg q2, if_pos q3]
    go_enter Try.func41, Try.ntmps41
    go_wp2_with (fail)
    refine bodyPost_ret (by simp [results, Try.results41, go_sem, *]; try with_reducible rfl) rfl ?_
    exact ⟨by rw [e]; rfl, (by repeat (first | exact Below.refl _ _ | assumption | (refine Below.setCell ?_ (by simp) _) | (refine Below.alloc ?_ (by simp) _)))⟩
  · have b2 : ((v.k : Int) % 4 == 2) = false := by simp; omega
    have b3 : ((v.k : Int) % 4 == 3) = false := by simp; omega
    have e : plainV v = ⟨v.k, v.n, ByteArray.empty⟩ := by unfold plainV; rw [if_neg q2, if_neg q3]
    go_enter Try.func41, Try.ntmps41
    go_wp2_with (fail)
    refine bodyPost_ret (by simp [results, Try.results41, go_sem, *]; try with_reducible rfl) rfl ?_
    exact ⟨by rw [e]; rfl, (by repeat (first | exact Below.refl _ _ | assumption | (refine Below.setCell ?_ (by simp) _) | (refine Below.alloc ?_ (by simp) _)))⟩
end Go.Proofs.Ytcapeefhbkgogaa
