/- BallotOrder's walk. -/
import Derived.Test.YtflpnokhcaepfaaDoorOrderW0
import Derived.Test.YtflpnokhcaepfaaDoorOrderWR
import Derived.Test.YtflpnokhcaepfaaDoorOrderWN
namespace Go.Proofs.YtflpnokhcaepfaaDoor
open Go.RowKit
set_option linter.unusedSimpArgs false
set_option linter.unusedVariables false
set_option linter.unusedSectionVars false
set_option maxRecDepth 10000
theorem order_walk (r n : Int) (rl : -9223372036854775808 ≤ r ∧ r ≤ 9223372036854775807) (nl : -9223372036854775808 ≤ n ∧ n ≤ 9223372036854775807) (s m : Int) (sl : -9223372036854775808 ≤ s ∧ s ≤ 9223372036854775807) (ml : -9223372036854775808 ≤ m ∧ m ≤ 9223372036854775807) (t u : Int) (tl : -9223372036854775808 ≤ t ∧ t ≤ 9223372036854775807) (ul : -9223372036854775808 ≤ u ∧ u ≤ 9223372036854775807) (w : World) (hL : Ldr w) :
    Calls Tryd.prog 11 #[.agg #[.int .i64 r, .int .i64 n], .agg #[.int .i64 s, .int .i64 m], .agg #[.int .i64 t, .int .i64 u]] w fun e w' => e = .returned (.bool true) ∧ Below w.heap.size w w' := by
  obtain ⟨M1, M2, hmx, p1, p2, p3, hM⟩ := mx_three r n s m t u
  have hrr := ord_self r n
  have hc : ∀ v, ((v = -1 ∧ (r < t ∨ (r = t ∧ n < u))) ∨ (v = 0 ∧ r = t ∧ n = u) ∨ (v = 1 ∧ (t < r ∨ (r = t ∧ u < n)))) → ordI r n t u = v := fun v h => by
    rcases ord_three r n t u with ⟨e, q⟩ | ⟨e, q⟩ | ⟨e, q⟩ <;> omega
  rcases ord_three r n s m with ⟨hx, q⟩ | ⟨hx, rfl, rfl⟩ | ⟨hx, q⟩
  · have hxr : ordI s m r n = 1 := by rw [ord_flip, hx]; rfl
    rcases ord_three s m t u with ⟨hy, g⟩ | ⟨hy, g⟩ | ⟨hy, g⟩
    · have hac := hc (-1) (by omega)
      rcases q with q | ⟨rfl, q⟩
      · exact order_mm_r r n s m t u w hL hx hxr hrr hy hac (by simp; omega) (by omega) M1 M2 _ _ _ hmx rfl rfl rfl p1 p2 p3 hM
      · exact order_mm_n r n m t u w hL hx hxr hrr hy hac (by simp; omega) (by omega) M1 M2 _ _ _ hmx rfl rfl rfl p1 p2 p3 hM
    · have hac := hc (-1) (by omega)
      rcases q with q | ⟨rfl, q⟩
      · exact order_m0_r r n s m t u w hL hx hxr hrr hy hac (by simp; omega) (by omega) M1 M2 _ _ _ hmx rfl rfl rfl p1 p2 p3 hM
      · exact order_m0_n r n m t u w hL hx hxr hrr hy hac (by simp; omega) (by omega) M1 M2 _ _ _ hmx rfl rfl rfl p1 p2 p3 hM
    · rcases q with q | ⟨rfl, q⟩
      · exact order_mp_r r n s m t u w hL hx hxr hrr hy (by simp; omega) (by omega) M1 M2 _ _ _ hmx rfl rfl rfl p1 p2 p3 hM
      · exact order_mp_n r n m t u w hL hx hxr hrr hy (by simp; omega) (by omega) M1 M2 _ _ _ hmx rfl rfl rfl p1 p2 p3 hM
  · rcases ord_three r n t u with ⟨hy, g⟩ | ⟨hy, g⟩ | ⟨hy, g⟩
    · exact order_0m r n t u w hL hx hx hx hy hy M1 M2 _ _ _ hmx rfl rfl rfl p1 p2 p3 hM
    · exact order_00 r n t u w hL hx hx hx hy hy M1 M2 _ _ _ hmx rfl rfl rfl p1 p2 p3 hM
    · exact order_0p r n t u w hL hx hx hx hy M1 M2 _ _ _ hmx rfl rfl rfl p1 p2 p3 hM
  · have hxr : ordI s m r n = -1 := by rw [ord_flip, hx]
    have hy : -1 ≤ ordI s m t u ∧ ordI s m t u ≤ 1 := by rcases ord_three s m t u with ⟨e, q⟩ | ⟨e, q⟩ | ⟨e, q⟩ <;> omega
    rcases q with q | ⟨rfl, q⟩
    · exact order_p_r r n s m t u w hL hx hxr hrr _ hy.1 hy.2 rfl (by simp; omega) (by omega) M1 M2 _ _ _ hmx rfl rfl rfl p1 p2 p3 hM
    · exact order_p_n r n m t u w hL hx hxr hrr _ hy.1 hy.2 rfl (by simp; omega) (by omega) M1 M2 _ _ _ hmx rfl rfl rfl p1 p2 p3 hM
end Go.Proofs.YtflpnokhcaepfaaDoor
