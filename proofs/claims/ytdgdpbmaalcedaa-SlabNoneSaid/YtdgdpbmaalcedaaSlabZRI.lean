/- The closure that 'All' of no slab hands back: it calls nobody. -/
import Derived.Test.YtdgdpbmaalcedaaSlabZAI
import Derived.RangeFuncNested
import Derived.RangeFuncBound
import Derived.RangeFuncCalls
import Derived.RangeFuncLeaves
import Derived.Shelf.Abstract
import Derived.Shelf.RegionOpen
import Derived.OwnWalkIn
import Derived.TacticsInMore
import Derived.LoopNIn
import Derived.LoopIn
namespace Go.Proofs.Ytdgdpbmaalcedaa.SlabI
open Go Go.RowKit Go.Shelf
set_option maxHeartbeats 400000
set_option linter.unusedVariables false

set_option maxRecDepth 100000 in
theorem AllR_z (F : Fence) (n : Nat) (h1 : F.fn 104) (hro : F.round = none) (hn : 1 ≤ n) (b c : Nat) (w : World) (hb : w.cell? ⟨b, 0, none⟩ = some (.slice none 0 0)) :
    SeqStopsK (α := Empty) F n Try.prog 104 #[.pointer (some ⟨b, 0, none⟩), .pointer (some ⟨c, 0, none⟩)] (fun x => nomatch x) (Below w.heap.size) (fun xs => xs = []) (fun _ => False) 0 w := by
  intro l J Jx W hW hJ hJx hY h0
  have hc : W.cell? ⟨b, 0, none⟩ = some (.slice none 0 0) := by
    have hlt : b < w.heap.size := by
      unfold World.cell? at hb
      cases hq : w.heap[b]? with
      | none => simp only [hq] at hb; cases hb
      | some o => exact row_lt hq
    exact (hW.cell (p := ⟨b, 0, none⟩) hlt).trans hb
  refine callsIn_of_wp Try.func104 rfl h1 ?_ hro
  simp only [Try.ntmps104, List.size_toArray, List.length_cons, List.length_nil, Nat.reduceAdd, Nat.reduceSub, Array.replicate_succ, Array.replicate_zero, List.push_toArray, List.append_toArray, List.nil_append, List.cons_append]
  gi_wp2
  refine wpIn_loop_rounds 1 ?_
  rw [roundsIn_succ]
  gi_wp2
  go_end0
  exact ⟨⟨_, rfl⟩, .inl ⟨[], rfl, h0⟩⟩

end Go.Proofs.Ytdgdpbmaalcedaa.SlabI
