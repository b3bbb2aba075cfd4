/- BallotCounts' walk. -/
import Derived.Test.YtflpnokhcaepfaaDoorLaws
import Derived.Test.YtflpnokhcaepfaaDoorCountsW1
import Derived.Test.YtflpnokhcaepfaaDoorCountsW2
import Derived.Test.YtflpnokhcaepfaaDoorCountsW3
import Derived.Test.YtflpnokhcaepfaaDoorCountsW4
import Derived.Test.YtflpnokhcaepfaaDoorCountsW5
import Derived.Test.YtflpnokhcaepfaaDoorCountsW6
import Derived.Test.YtflpnokhcaepfaaDoorCountsW7
namespace Go.Proofs.YtflpnokhcaepfaaDoor
open Go.RowKit
set_option linter.unusedSimpArgs false
set_option linter.unusedVariables false
set_option linter.unusedSectionVars false
set_option maxRecDepth 10000
theorem counts_core1 (a : Int) (al : 0 ≤ a ∧ a ≤ 255) (r1 : Int) (hr1 : 0 ≤ r1 ∧ r1 ≤ 4294967295) (r2 : Int) (hr2 : 0 ≤ r2 ∧ r2 ≤ 4294967295) (d1 : Int) (hd1 : 0 ≤ d1 ∧ d1 ≤ 255) (d2 : Int) (hd2 : 0 ≤ d2 ∧ d2 ≤ 255) (k : Int) (kl : 0 ≤ k ∧ k ≤ 18446744073709551615) (w : World) (hL : Ldr w) (ha : a % 7 = 0) (R N R2 N2 : Int) (hA1 : mdR r1 = R) (hA2 : mdN r1 d1 1 = N) (hB1 : mdR r2 = R2) (hB2 : mdN r2 d2 1 = N2) (hv1 : vld R N 1 = true) (hv2 : vld R2 N2 1 = true) :
    Calls Tryd.prog 7 #[.int .u8 a, .int .u32 r1, .int .u32 r2, .int .u8 d1, .int .u8 d2, .int .u64 k] w fun e w' => e = .returned (.bool true) ∧ Below w.heap.size w w' := by
  obtain ⟨x, hx, hc, x0, x1, _, _⟩ := frm_num hv1
  obtain ⟨y, hy, _, _, _, _, _⟩ := frm_num hv2
  obtain ⟨S, T, hd, hvd, hz⟩ := num_frm (k := 1) (q := k % 1073741825) (by omega) (by omega) (by omega)
  have hov : frm 1073741825 1 = (0, 0, 3) := frm_q (by omega) (by omega)
  have hck := chkE_ok hvd
  have hxy : x < y ∨ y < x → (x == y) = false := fun h => by simp; omega
  rcases ord_num hv1 hv2 hx hy with ⟨rfl, rfl, rfl⟩ | ⟨ho, hlt, he | ⟨rfl, he⟩⟩ | ⟨ho, hlt, he | ⟨rfl, he⟩⟩
  · exact counts_eq1 a al r1 hr1 r2 hr2 d1 hd1 d2 hd2 k kl w hL ha R N x S T x0 (by omega) hA1 hA2 hB1 hB2 hx hc (ord_self R N) hd hz hck hov
  · exact counts_lr1 a al r1 hr1 r2 hr2 d1 hd1 d2 hd2 k kl w hL ha R N x S T R2 N2 y x0 (by omega) hA1 hA2 hB1 hB2 hx hc ho hd hz hck hov hy hlt (hxy (.inl hlt)) he
  · exact counts_ln1 a al r1 hr1 r2 hr2 d1 hd1 d2 hd2 k kl w hL ha R N x S T N2 y x0 (by omega) hA1 hA2 hB1 hB2 hx hc ho hd hz hck hov hy hlt (hxy (.inl hlt)) he
  · exact counts_gr1 a al r1 hr1 r2 hr2 d1 hd1 d2 hd2 k kl w hL ha R N x S T R2 N2 y x0 (by omega) hA1 hA2 hB1 hB2 hx hc ho hd hz hck hov hy hlt (hxy (.inr hlt)) he
  · exact counts_gn1 a al r1 hr1 r2 hr2 d1 hd1 d2 hd2 k kl w hL ha R N x S T N2 y x0 (by omega) hA1 hA2 hB1 hB2 hx hc ho hd hz hck hov hy hlt (hxy (.inr hlt)) he
theorem counts_core2 (a : Int) (al : 0 ≤ a ∧ a ≤ 255) (r1 : Int) (hr1 : 0 ≤ r1 ∧ r1 ≤ 4294967295) (r2 : Int) (hr2 : 0 ≤ r2 ∧ r2 ≤ 4294967295) (d1 : Int) (hd1 : 0 ≤ d1 ∧ d1 ≤ 255) (d2 : Int) (hd2 : 0 ≤ d2 ∧ d2 ≤ 255) (k : Int) (kl : 0 ≤ k ∧ k ≤ 18446744073709551615) (w : World) (hL : Ldr w) (ha : a % 7 = 1) (R N R2 N2 : Int) (hA1 : mdR r1 = R) (hA2 : mdN r1 d1 2 = N) (hB1 : mdR r2 = R2) (hB2 : mdN r2 d2 2 = N2) (hv1 : vld R N 2 = true) (hv2 : vld R2 N2 2 = true) :
    Calls Tryd.prog 7 #[.int .u8 a, .int .u32 r1, .int .u32 r2, .int .u8 d1, .int .u8 d2, .int .u64 k] w fun e w' => e = .returned (.bool true) ∧ Below w.heap.size w w' := by
  obtain ⟨x, hx, hc, x0, x1, _, _⟩ := frm_num hv1
  obtain ⟨y, hy, _, _, _, _, _⟩ := frm_num hv2
  obtain ⟨S, T, hd, hvd, hz⟩ := num_frm (k := 2) (q := k % 2147483649) (by omega) (by omega) (by omega)
  have hov : frm 2147483649 2 = (0, 0, 3) := frm_q (by omega) (by omega)
  have hck := chkE_ok hvd
  have hxy : x < y ∨ y < x → (x == y) = false := fun h => by simp; omega
  rcases ord_num hv1 hv2 hx hy with ⟨rfl, rfl, rfl⟩ | ⟨ho, hlt, he | ⟨rfl, he⟩⟩ | ⟨ho, hlt, he | ⟨rfl, he⟩⟩
  · exact counts_eq2 a al r1 hr1 r2 hr2 d1 hd1 d2 hd2 k kl w hL ha R N x S T x0 (by omega) hA1 hA2 hB1 hB2 hx hc (ord_self R N) hd hz hck hov
  · exact counts_lr2 a al r1 hr1 r2 hr2 d1 hd1 d2 hd2 k kl w hL ha R N x S T R2 N2 y x0 (by omega) hA1 hA2 hB1 hB2 hx hc ho hd hz hck hov hy hlt (hxy (.inl hlt)) he
  · exact counts_ln2 a al r1 hr1 r2 hr2 d1 hd1 d2 hd2 k kl w hL ha R N x S T N2 y x0 (by omega) hA1 hA2 hB1 hB2 hx hc ho hd hz hck hov hy hlt (hxy (.inl hlt)) he
  · exact counts_gr2 a al r1 hr1 r2 hr2 d1 hd1 d2 hd2 k kl w hL ha R N x S T R2 N2 y x0 (by omega) hA1 hA2 hB1 hB2 hx hc ho hd hz hck hov hy hlt (hxy (.inr hlt)) he
  · exact counts_gn2 a al r1 hr1 r2 hr2 d1 hd1 d2 hd2 k kl w hL ha R N x S T N2 y x0 (by omega) hA1 hA2 hB1 hB2 hx hc ho hd hz hck hov hy hlt (hxy (.inr hlt)) he
theorem counts_core3 (a : Int) (al : 0 ≤ a ∧ a ≤ 255) (r1 : Int) (hr1 : 0 ≤ r1 ∧ r1 ≤ 4294967295) (r2 : Int) (hr2 : 0 ≤ r2 ∧ r2 ≤ 4294967295) (d1 : Int) (hd1 : 0 ≤ d1 ∧ d1 ≤ 255) (d2 : Int) (hd2 : 0 ≤ d2 ∧ d2 ≤ 255) (k : Int) (kl : 0 ≤ k ∧ k ≤ 18446744073709551615) (w : World) (hL : Ldr w) (ha : a % 7 = 2) (R N R2 N2 : Int) (hA1 : mdR r1 = R) (hA2 : mdN r1 d1 3 = N) (hB1 : mdR r2 = R2) (hB2 : mdN r2 d2 3 = N2) (hv1 : vld R N 3 = true) (hv2 : vld R2 N2 3 = true) :
    Calls Tryd.prog 7 #[.int .u8 a, .int .u32 r1, .int .u32 r2, .int .u8 d1, .int .u8 d2, .int .u64 k] w fun e w' => e = .returned (.bool true) ∧ Below w.heap.size w w' := by
  obtain ⟨x, hx, hc, x0, x1, _, _⟩ := frm_num hv1
  obtain ⟨y, hy, _, _, _, _, _⟩ := frm_num hv2
  obtain ⟨S, T, hd, hvd, hz⟩ := num_frm (k := 3) (q := k % 3221225473) (by omega) (by omega) (by omega)
  have hov : frm 3221225473 3 = (0, 0, 3) := frm_q (by omega) (by omega)
  have hck := chkE_ok hvd
  have hxy : x < y ∨ y < x → (x == y) = false := fun h => by simp; omega
  rcases ord_num hv1 hv2 hx hy with ⟨rfl, rfl, rfl⟩ | ⟨ho, hlt, he | ⟨rfl, he⟩⟩ | ⟨ho, hlt, he | ⟨rfl, he⟩⟩
  · exact counts_eq3 a al r1 hr1 r2 hr2 d1 hd1 d2 hd2 k kl w hL ha R N x S T x0 (by omega) hA1 hA2 hB1 hB2 hx hc (ord_self R N) hd hz hck hov
  · exact counts_lr3 a al r1 hr1 r2 hr2 d1 hd1 d2 hd2 k kl w hL ha R N x S T R2 N2 y x0 (by omega) hA1 hA2 hB1 hB2 hx hc ho hd hz hck hov hy hlt (hxy (.inl hlt)) he
  · exact counts_ln3 a al r1 hr1 r2 hr2 d1 hd1 d2 hd2 k kl w hL ha R N x S T N2 y x0 (by omega) hA1 hA2 hB1 hB2 hx hc ho hd hz hck hov hy hlt (hxy (.inl hlt)) he
  · exact counts_gr3 a al r1 hr1 r2 hr2 d1 hd1 d2 hd2 k kl w hL ha R N x S T R2 N2 y x0 (by omega) hA1 hA2 hB1 hB2 hx hc ho hd hz hck hov hy hlt (hxy (.inr hlt)) he
  · exact counts_gn3 a al r1 hr1 r2 hr2 d1 hd1 d2 hd2 k kl w hL ha R N x S T N2 y x0 (by omega) hA1 hA2 hB1 hB2 hx hc ho hd hz hck hov hy hlt (hxy (.inr hlt)) he
theorem counts_core4 (a : Int) (al : 0 ≤ a ∧ a ≤ 255) (r1 : Int) (hr1 : 0 ≤ r1 ∧ r1 ≤ 4294967295) (r2 : Int) (hr2 : 0 ≤ r2 ∧ r2 ≤ 4294967295) (d1 : Int) (hd1 : 0 ≤ d1 ∧ d1 ≤ 255) (d2 : Int) (hd2 : 0 ≤ d2 ∧ d2 ≤ 255) (k : Int) (kl : 0 ≤ k ∧ k ≤ 18446744073709551615) (w : World) (hL : Ldr w) (ha : a % 7 = 3) (R N R2 N2 : Int) (hA1 : mdR r1 = R) (hA2 : mdN r1 d1 4 = N) (hB1 : mdR r2 = R2) (hB2 : mdN r2 d2 4 = N2) (hv1 : vld R N 4 = true) (hv2 : vld R2 N2 4 = true) :
    Calls Tryd.prog 7 #[.int .u8 a, .int .u32 r1, .int .u32 r2, .int .u8 d1, .int .u8 d2, .int .u64 k] w fun e w' => e = .returned (.bool true) ∧ Below w.heap.size w w' := by
  obtain ⟨x, hx, hc, x0, x1, _, _⟩ := frm_num hv1
  obtain ⟨y, hy, _, _, _, _, _⟩ := frm_num hv2
  obtain ⟨S, T, hd, hvd, hz⟩ := num_frm (k := 4) (q := k % 4294967297) (by omega) (by omega) (by omega)
  have hov : frm 4294967297 4 = (0, 0, 3) := frm_q (by omega) (by omega)
  have hck := chkE_ok hvd
  have hxy : x < y ∨ y < x → (x == y) = false := fun h => by simp; omega
  rcases ord_num hv1 hv2 hx hy with ⟨rfl, rfl, rfl⟩ | ⟨ho, hlt, he | ⟨rfl, he⟩⟩ | ⟨ho, hlt, he | ⟨rfl, he⟩⟩
  · exact counts_eq4 a al r1 hr1 r2 hr2 d1 hd1 d2 hd2 k kl w hL ha R N x S T x0 (by omega) hA1 hA2 hB1 hB2 hx hc (ord_self R N) hd hz hck hov
  · exact counts_lr4 a al r1 hr1 r2 hr2 d1 hd1 d2 hd2 k kl w hL ha R N x S T R2 N2 y x0 (by omega) hA1 hA2 hB1 hB2 hx hc ho hd hz hck hov hy hlt (hxy (.inl hlt)) he
  · exact counts_ln4 a al r1 hr1 r2 hr2 d1 hd1 d2 hd2 k kl w hL ha R N x S T N2 y x0 (by omega) hA1 hA2 hB1 hB2 hx hc ho hd hz hck hov hy hlt (hxy (.inl hlt)) he
  · exact counts_gr4 a al r1 hr1 r2 hr2 d1 hd1 d2 hd2 k kl w hL ha R N x S T R2 N2 y x0 (by omega) hA1 hA2 hB1 hB2 hx hc ho hd hz hck hov hy hlt (hxy (.inr hlt)) he
  · exact counts_gn4 a al r1 hr1 r2 hr2 d1 hd1 d2 hd2 k kl w hL ha R N x S T N2 y x0 (by omega) hA1 hA2 hB1 hB2 hx hc ho hd hz hck hov hy hlt (hxy (.inr hlt)) he
theorem counts_core5 (a : Int) (al : 0 ≤ a ∧ a ≤ 255) (r1 : Int) (hr1 : 0 ≤ r1 ∧ r1 ≤ 4294967295) (r2 : Int) (hr2 : 0 ≤ r2 ∧ r2 ≤ 4294967295) (d1 : Int) (hd1 : 0 ≤ d1 ∧ d1 ≤ 255) (d2 : Int) (hd2 : 0 ≤ d2 ∧ d2 ≤ 255) (k : Int) (kl : 0 ≤ k ∧ k ≤ 18446744073709551615) (w : World) (hL : Ldr w) (ha : a % 7 = 4) (R N R2 N2 : Int) (hA1 : mdR r1 = R) (hA2 : mdN r1 d1 5 = N) (hB1 : mdR r2 = R2) (hB2 : mdN r2 d2 5 = N2) (hv1 : vld R N 5 = true) (hv2 : vld R2 N2 5 = true) :
    Calls Tryd.prog 7 #[.int .u8 a, .int .u32 r1, .int .u32 r2, .int .u8 d1, .int .u8 d2, .int .u64 k] w fun e w' => e = .returned (.bool true) ∧ Below w.heap.size w w' := by
  obtain ⟨x, hx, hc, x0, x1, _, _⟩ := frm_num hv1
  obtain ⟨y, hy, _, _, _, _, _⟩ := frm_num hv2
  obtain ⟨S, T, hd, hvd, hz⟩ := num_frm (k := 5) (q := k % 5368709121) (by omega) (by omega) (by omega)
  have hov : frm 5368709121 5 = (0, 0, 3) := frm_q (by omega) (by omega)
  have hck := chkE_ok hvd
  have hxy : x < y ∨ y < x → (x == y) = false := fun h => by simp; omega
  rcases ord_num hv1 hv2 hx hy with ⟨rfl, rfl, rfl⟩ | ⟨ho, hlt, he | ⟨rfl, he⟩⟩ | ⟨ho, hlt, he | ⟨rfl, he⟩⟩
  · exact counts_eq5 a al r1 hr1 r2 hr2 d1 hd1 d2 hd2 k kl w hL ha R N x S T x0 (by omega) hA1 hA2 hB1 hB2 hx hc (ord_self R N) hd hz hck hov
  · exact counts_lr5 a al r1 hr1 r2 hr2 d1 hd1 d2 hd2 k kl w hL ha R N x S T R2 N2 y x0 (by omega) hA1 hA2 hB1 hB2 hx hc ho hd hz hck hov hy hlt (hxy (.inl hlt)) he
  · exact counts_ln5 a al r1 hr1 r2 hr2 d1 hd1 d2 hd2 k kl w hL ha R N x S T N2 y x0 (by omega) hA1 hA2 hB1 hB2 hx hc ho hd hz hck hov hy hlt (hxy (.inl hlt)) he
  · exact counts_gr5 a al r1 hr1 r2 hr2 d1 hd1 d2 hd2 k kl w hL ha R N x S T R2 N2 y x0 (by omega) hA1 hA2 hB1 hB2 hx hc ho hd hz hck hov hy hlt (hxy (.inr hlt)) he
  · exact counts_gn5 a al r1 hr1 r2 hr2 d1 hd1 d2 hd2 k kl w hL ha R N x S T N2 y x0 (by omega) hA1 hA2 hB1 hB2 hx hc ho hd hz hck hov hy hlt (hxy (.inr hlt)) he
theorem counts_core6 (a : Int) (al : 0 ≤ a ∧ a ≤ 255) (r1 : Int) (hr1 : 0 ≤ r1 ∧ r1 ≤ 4294967295) (r2 : Int) (hr2 : 0 ≤ r2 ∧ r2 ≤ 4294967295) (d1 : Int) (hd1 : 0 ≤ d1 ∧ d1 ≤ 255) (d2 : Int) (hd2 : 0 ≤ d2 ∧ d2 ≤ 255) (k : Int) (kl : 0 ≤ k ∧ k ≤ 18446744073709551615) (w : World) (hL : Ldr w) (ha : a % 7 = 5) (R N R2 N2 : Int) (hA1 : mdR r1 = R) (hA2 : mdN r1 d1 6 = N) (hB1 : mdR r2 = R2) (hB2 : mdN r2 d2 6 = N2) (hv1 : vld R N 6 = true) (hv2 : vld R2 N2 6 = true) :
    Calls Tryd.prog 7 #[.int .u8 a, .int .u32 r1, .int .u32 r2, .int .u8 d1, .int .u8 d2, .int .u64 k] w fun e w' => e = .returned (.bool true) ∧ Below w.heap.size w w' := by
  obtain ⟨x, hx, hc, x0, x1, _, _⟩ := frm_num hv1
  obtain ⟨y, hy, _, _, _, _, _⟩ := frm_num hv2
  obtain ⟨S, T, hd, hvd, hz⟩ := num_frm (k := 6) (q := k % 6442450945) (by omega) (by omega) (by omega)
  have hov : frm 6442450945 6 = (0, 0, 3) := frm_q (by omega) (by omega)
  have hck := chkE_ok hvd
  have hxy : x < y ∨ y < x → (x == y) = false := fun h => by simp; omega
  rcases ord_num hv1 hv2 hx hy with ⟨rfl, rfl, rfl⟩ | ⟨ho, hlt, he | ⟨rfl, he⟩⟩ | ⟨ho, hlt, he | ⟨rfl, he⟩⟩
  · exact counts_eq6 a al r1 hr1 r2 hr2 d1 hd1 d2 hd2 k kl w hL ha R N x S T x0 (by omega) hA1 hA2 hB1 hB2 hx hc (ord_self R N) hd hz hck hov
  · exact counts_lr6 a al r1 hr1 r2 hr2 d1 hd1 d2 hd2 k kl w hL ha R N x S T R2 N2 y x0 (by omega) hA1 hA2 hB1 hB2 hx hc ho hd hz hck hov hy hlt (hxy (.inl hlt)) he
  · exact counts_ln6 a al r1 hr1 r2 hr2 d1 hd1 d2 hd2 k kl w hL ha R N x S T N2 y x0 (by omega) hA1 hA2 hB1 hB2 hx hc ho hd hz hck hov hy hlt (hxy (.inl hlt)) he
  · exact counts_gr6 a al r1 hr1 r2 hr2 d1 hd1 d2 hd2 k kl w hL ha R N x S T R2 N2 y x0 (by omega) hA1 hA2 hB1 hB2 hx hc ho hd hz hck hov hy hlt (hxy (.inr hlt)) he
  · exact counts_gn6 a al r1 hr1 r2 hr2 d1 hd1 d2 hd2 k kl w hL ha R N x S T N2 y x0 (by omega) hA1 hA2 hB1 hB2 hx hc ho hd hz hck hov hy hlt (hxy (.inr hlt)) he
theorem counts_core7 (a : Int) (al : 0 ≤ a ∧ a ≤ 255) (r1 : Int) (hr1 : 0 ≤ r1 ∧ r1 ≤ 4294967295) (r2 : Int) (hr2 : 0 ≤ r2 ∧ r2 ≤ 4294967295) (d1 : Int) (hd1 : 0 ≤ d1 ∧ d1 ≤ 255) (d2 : Int) (hd2 : 0 ≤ d2 ∧ d2 ≤ 255) (k : Int) (kl : 0 ≤ k ∧ k ≤ 18446744073709551615) (w : World) (hL : Ldr w) (ha : a % 7 = 6) (R N R2 N2 : Int) (hA1 : mdR r1 = R) (hA2 : mdN r1 d1 7 = N) (hB1 : mdR r2 = R2) (hB2 : mdN r2 d2 7 = N2) (hv1 : vld R N 7 = true) (hv2 : vld R2 N2 7 = true) :
    Calls Tryd.prog 7 #[.int .u8 a, .int .u32 r1, .int .u32 r2, .int .u8 d1, .int .u8 d2, .int .u64 k] w fun e w' => e = .returned (.bool true) ∧ Below w.heap.size w w' := by
  obtain ⟨x, hx, hc, x0, x1, _, _⟩ := frm_num hv1
  obtain ⟨y, hy, _, _, _, _, _⟩ := frm_num hv2
  obtain ⟨S, T, hd, hvd, hz⟩ := num_frm (k := 7) (q := k % 7516192769) (by omega) (by omega) (by omega)
  have hov : frm 7516192769 7 = (0, 0, 3) := frm_q (by omega) (by omega)
  have hck := chkE_ok hvd
  have hxy : x < y ∨ y < x → (x == y) = false := fun h => by simp; omega
  rcases ord_num hv1 hv2 hx hy with ⟨rfl, rfl, rfl⟩ | ⟨ho, hlt, he | ⟨rfl, he⟩⟩ | ⟨ho, hlt, he | ⟨rfl, he⟩⟩
  · exact counts_eq7 a al r1 hr1 r2 hr2 d1 hd1 d2 hd2 k kl w hL ha R N x S T x0 (by omega) hA1 hA2 hB1 hB2 hx hc (ord_self R N) hd hz hck hov
  · exact counts_lr7 a al r1 hr1 r2 hr2 d1 hd1 d2 hd2 k kl w hL ha R N x S T R2 N2 y x0 (by omega) hA1 hA2 hB1 hB2 hx hc ho hd hz hck hov hy hlt (hxy (.inl hlt)) he
  · exact counts_ln7 a al r1 hr1 r2 hr2 d1 hd1 d2 hd2 k kl w hL ha R N x S T N2 y x0 (by omega) hA1 hA2 hB1 hB2 hx hc ho hd hz hck hov hy hlt (hxy (.inl hlt)) he
  · exact counts_gr7 a al r1 hr1 r2 hr2 d1 hd1 d2 hd2 k kl w hL ha R N x S T R2 N2 y x0 (by omega) hA1 hA2 hB1 hB2 hx hc ho hd hz hck hov hy hlt (hxy (.inr hlt)) he
  · exact counts_gn7 a al r1 hr1 r2 hr2 d1 hd1 d2 hd2 k kl w hL ha R N x S T N2 y x0 (by omega) hA1 hA2 hB1 hB2 hx hc ho hd hz hck hov hy hlt (hxy (.inr hlt)) he
theorem counts_walk (a : Int) (al : 0 ≤ a ∧ a ≤ 255) (r1 : Int) (hr1 : 0 ≤ r1 ∧ r1 ≤ 4294967295) (r2 : Int) (hr2 : 0 ≤ r2 ∧ r2 ≤ 4294967295) (d1 : Int) (hd1 : 0 ≤ d1 ∧ d1 ≤ 255) (d2 : Int) (hd2 : 0 ≤ d2 ∧ d2 ≤ 255) (k : Int) (kl : 0 ≤ k ∧ k ≤ 18446744073709551615) (w : World) (hL : Ldr w) :
    Calls Tryd.prog 7 #[.int .u8 a, .int .u32 r1, .int .u32 r2, .int .u8 d1, .int .u8 d2, .int .u64 k] w fun e w' => e = .returned (.bool true) ∧ Below w.heap.size w w' := by
  have h : a % 7 = 0 ∨ a % 7 = 1 ∨ a % 7 = 2 ∨ a % 7 = 3 ∨ a % 7 = 4 ∨ a % 7 = 5 ∨ a % 7 = 6 := by omega
  rcases h with h | h | h | h | h | h | h
  · exact counts_core1 a al r1 hr1 r2 hr2 d1 hd1 d2 hd2 k kl w hL h _ _ _ _ rfl rfl rfl rfl (md_vld r1 d1 1 hr1.1 hd1.1 (by omega)) (md_vld r2 d2 1 hr2.1 hd2.1 (by omega))
  · exact counts_core2 a al r1 hr1 r2 hr2 d1 hd1 d2 hd2 k kl w hL h _ _ _ _ rfl rfl rfl rfl (md_vld r1 d1 2 hr1.1 hd1.1 (by omega)) (md_vld r2 d2 2 hr2.1 hd2.1 (by omega))
  · exact counts_core3 a al r1 hr1 r2 hr2 d1 hd1 d2 hd2 k kl w hL h _ _ _ _ rfl rfl rfl rfl (md_vld r1 d1 3 hr1.1 hd1.1 (by omega)) (md_vld r2 d2 3 hr2.1 hd2.1 (by omega))
  · exact counts_core4 a al r1 hr1 r2 hr2 d1 hd1 d2 hd2 k kl w hL h _ _ _ _ rfl rfl rfl rfl (md_vld r1 d1 4 hr1.1 hd1.1 (by omega)) (md_vld r2 d2 4 hr2.1 hd2.1 (by omega))
  · exact counts_core5 a al r1 hr1 r2 hr2 d1 hd1 d2 hd2 k kl w hL h _ _ _ _ rfl rfl rfl rfl (md_vld r1 d1 5 hr1.1 hd1.1 (by omega)) (md_vld r2 d2 5 hr2.1 hd2.1 (by omega))
  · exact counts_core6 a al r1 hr1 r2 hr2 d1 hd1 d2 hd2 k kl w hL h _ _ _ _ rfl rfl rfl rfl (md_vld r1 d1 6 hr1.1 hd1.1 (by omega)) (md_vld r2 d2 6 hr2.1 hd2.1 (by omega))
  · exact counts_core7 a al r1 hr1 r2 hr2 d1 hd1 d2 hd2 k kl w hL h _ _ _ _ rfl rfl rfl rfl (md_vld r1 d1 7 hr1.1 hd1.1 (by omega)) (md_vld r2 d2 7 hr2.1 hd2.1 (by omega))
end Go.Proofs.YtflpnokhcaepfaaDoor
