/- Laws of the layers below. -/
import Derived.Test.YtngbdbpofifimaaGreatQm9
set_option maxHeartbeats 3200000
set_option maxRecDepth 100000
set_option linter.unusedVariables false
namespace Go.Proofs.YtngbdbpofifimaaGreat.Store
open Go.RowKit Go.Proofs.YtngbdbpofifimaaGreat.ShaW Go.Proofs.YtngbdbpofifimaaGreat.Path
def XA (w:World) (v:Value):Prop:=v=.pointer none∨∃s,v=.pointer (some ⟨s,0,none⟩)∧w.heap[s]?=some (.cells #[.pointer none] 174 (0,0))
def Xi:Array Value:=(List.replicate 129 (Value.int .u8 0)).toArray
end Go.Proofs.YtngbdbpofifimaaGreat.Store
