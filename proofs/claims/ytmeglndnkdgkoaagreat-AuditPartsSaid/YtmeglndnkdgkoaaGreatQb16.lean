/- Proved contracts and plain laws of the layers below, in one text. -/
import Derived.Test.YtmeglndnkdgkoaaGreatQb9
set_option maxHeartbeats 3200000
set_option maxRecDepth 100000
set_option linter.unusedVariables false
namespace Go.Proofs.YtmeglndnkdgkoaaGreat.Store
open Go Go.RowKit Go.Proofs.YtmeglndnkdgkoaaGreat Go.Proofs.YtmeglndnkdgkoaaGreat.ShaW Go.Proofs.YtmeglndnkdgkoaaGreat.Path
def NoStore (w:World) (v:Value):Prop:=v = .pointer none ∨ ∃ s,v = .pointer (some ⟨s,0,none⟩) ∧ w.heap[s]? = some (.cells #[.pointer none] 111 (0,0))
theorem NoStore.adds {w w':World} {v:Value} (h:NoStore w v) (ha:Adds w w'):NoStore w' v:=by
 rcases h with h | ⟨s,h,hr⟩
 · exact .inl h
 exact .inr ⟨s,h,ha.row hr id⟩
end Go.Proofs.YtmeglndnkdgkoaaGreat.Store
