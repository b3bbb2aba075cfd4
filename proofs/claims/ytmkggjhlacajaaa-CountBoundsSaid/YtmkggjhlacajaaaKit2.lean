/- A block's content in another spelling. No program in sight. -/
import Derived.Test.YtmkggjhlacajaaaKit
namespace Go.Proofs.Ytmkggjhlacajaaa
theorem hpTo {w : World} {g : Nat} {cs ds : Array Value} {t : TypeId} {f : Nat × Nat} (h : w.heap[g]? = some (.cells cs t f)) (e : cs = ds) : w.heap[g]? = some (.cells ds t f) := by rw [← e]; exact h
end Go.Proofs.Ytmkggjhlacajaaa
