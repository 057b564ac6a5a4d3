/- Laws of the layers below. -/
import Derived.Test.YtmeglndnkdgkoaaGreatQe9
set_option maxHeartbeats 3200000
set_option maxRecDepth 100000
set_option linter.unusedVariables false
namespace Go.Proofs.YtmeglndnkdgkoaaGreat.Store
open Go.RowKit Go.Proofs.YtmeglndnkdgkoaaGreat.ShaW Go.Proofs.YtmeglndnkdgkoaaGreat.Path
def NoStore (w:World) (v:Value):Prop:=v = .pointer none ∨ ∃ s,v = .pointer (some ⟨s,0,none⟩) ∧ w.heap[s]? = some (.cells #[.pointer none] 111 (0,0))
def nodeZ:Array Value:=(List.replicate 129 (Value.int .u8 0)).toArray
end Go.Proofs.YtmeglndnkdgkoaaGreat.Store
