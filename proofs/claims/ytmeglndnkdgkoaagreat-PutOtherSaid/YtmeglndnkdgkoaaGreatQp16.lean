/- The contracts of store.Store where there is no store: nil, or one that nobody made. -/
import Derived.Test.YtmeglndnkdgkoaaGreatQp8
import Derived.Test.YtmeglndnkdgkoaaGreatQp9
namespace Go.Proofs.YtmeglndnkdgkoaaGreat.Store
open Go Go.RowKit Go.Proofs.YtmeglndnkdgkoaaGreat Go.Proofs.YtmeglndnkdgkoaaGreat.ShaW Go.Proofs.YtmeglndnkdgkoaaGreat.Path
set_option maxHeartbeats 1600000
set_option linter.unusedVariables false
/-- No store: nil, or a store that nobody made. -/
def NoStore (w : World) (v : Value) : Prop := v = .pointer none ∨ ∃ s, v = .pointer (some ⟨s, 0, none⟩) ∧ w.heap[s]? = some (.cells #[.pointer none] 111 (0, 0))
theorem NoStore.adds {w w' : World} {v : Value} (h : NoStore w v) (ha : Adds w w') : NoStore w' v := by
  rcases h with h | ⟨s, h, hr⟩
  · exact .inl h
  · exact .inr ⟨s, h, ha.row hr id⟩
end Go.Proofs.YtmeglndnkdgkoaaGreat.Store
