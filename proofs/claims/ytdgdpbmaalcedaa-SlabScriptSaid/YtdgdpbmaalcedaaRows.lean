/-
  No cell of these rows narrows 'for every input' (looked for: loops, veiled, ifaces, maps, wideKeys, modest, calm, conditions, laid).
  DERIVED. THE GIVEN ROWS OF THIS SEAT. 8 by the template 'for every input the law returns true; each argument reads behind the call as it read before'; 0 by the template 'total and deterministic' (their statements: YtdgdpbmaalcedaaTotals.lean).
  GIVEN WITH THE SEED: the statements are not yours to turn. If you find one false, say at which input.
  Laid BY PROGRAM, IN A SANDBOX (cutbox-rows.mjs): the forced cells as the released guide's own fill.sh prints them over the translation 6a6c083e0d7352d4… (all of the seat's roots in one cut). By AI agents, Wed Nov 11 2026. No macro, syntax, notation, axiom, sorry.
-/
import Derived.Test.YtdgdpbmaalcedaaChecked
import GoSem.Claim
import GoSem.ClaimJoined
import GoSem.ClaimMapViews
import Derived.JoinedTies
import Derived.KernelRfl
namespace Go.Proofs.Ytdgdpbmaalcedaa
/- THE CELL 'sum', in the pinned program and in every row, IS THE sha256 OF THE DUMP (.gsa) THAT YtdgdpbmaalcedaaProg.lean LOADS. Nothing in Lean hashes anything: it is a label: what it is worth is what the hold of that sum in a sandbox is worth. -/
noncomputable def Try.pinned : Pinned := { name := "ytdgdpbmaalcedaa", sum := "6a6c083e0d7352d472af2e7e75ce43b6b90dd7b05dc5bb9dd86b2ebb45348d3f", checked := Try.checked }
namespace Rows
def none {H : Type} : Left H := { results := [], args := [] }

/-- 'rootcellarlaw06.SlabKnown': WHATEVER THE INPUT: true; the input reads as it did. -/
def slabKnownSpec : ChangeSpec := { name := "slabKnown", fn := fun _ => fun
  | [] => { results := [.lit (.bool true)], args := [] }
  | _ => none }
def slabKnownRow : OpenClaim := { program := "ytdgdpbmaalcedaa", sum := "6a6c083e0d7352d472af2e7e75ce43b6b90dd7b05dc5bb9dd86b2ebb45348d3f", func := "rootcellar/rootcellarlaw06.SlabKnown", spec := "slabKnown", plainKeys := false, apart := false }
def SlabKnownSaid : Prop := slabKnownRow.holds Try.pinned (OpenSpec.ofChange slabKnownSpec)

/-- ITS FALSE NEIGHBOUR: 'it returns false'. Refute it at one input. -/
def slabKnownWrong : ChangeSpec := { name := "slabKnown", fn := fun _ => fun
  | [] => { results := [.lit (.bool false)], args := [] }
  | _ => none }
def SlabKnownWrongFalsely : Prop := slabKnownRow.holds Try.pinned (OpenSpec.ofChange slabKnownWrong)

/-- 'rootcellarlaw06.SlabCounts': WHATEVER THE INPUT: true; the input reads as it did. -/
def slabCountsSpec : ChangeSpec := { name := "slabCounts", fn := fun _ => fun
  | [d1, d2] => { results := [.lit (.bool true)], args := [d1, d2] }
  | _ => none }
def slabCountsRow : OpenClaim := { program := "ytdgdpbmaalcedaa", sum := "6a6c083e0d7352d472af2e7e75ce43b6b90dd7b05dc5bb9dd86b2ebb45348d3f", func := "rootcellar/rootcellarlaw06.SlabCounts", spec := "slabCounts", plainKeys := false, apart := false }
def SlabCountsSaid : Prop := slabCountsRow.holds Try.pinned (OpenSpec.ofChange slabCountsSpec)

/-- ITS FALSE NEIGHBOUR: 'it returns false'. Refute it at one input. -/
def slabCountsWrong : ChangeSpec := { name := "slabCounts", fn := fun _ => fun
  | [d1, d2] => { results := [.lit (.bool false)], args := [d1, d2] }
  | _ => none }
def SlabCountsWrongFalsely : Prop := slabCountsRow.holds Try.pinned (OpenSpec.ofChange slabCountsWrong)

/-- 'rootcellarlaw06.SlabScript': WHATEVER THE INPUT: true; the input reads as it did. -/
def slabScriptSpec : ChangeSpec := { name := "slabScript", fn := fun _ => fun
  | [d1, d2] => { results := [.lit (.bool true)], args := [d1, d2] }
  | _ => none }
def slabScriptRow : OpenClaim := { program := "ytdgdpbmaalcedaa", sum := "6a6c083e0d7352d472af2e7e75ce43b6b90dd7b05dc5bb9dd86b2ebb45348d3f", func := "rootcellar/rootcellarlaw06.SlabScript", spec := "slabScript", unfollowed := true, recurses := true, plainKeys := false, apart := false }
def SlabScriptSaid : Prop := slabScriptRow.holds Try.pinned (OpenSpec.ofChange slabScriptSpec)

/-- ITS FALSE NEIGHBOUR: 'it returns false'. Refute it at one input. -/
def slabScriptWrong : ChangeSpec := { name := "slabScript", fn := fun _ => fun
  | [d1, d2] => { results := [.lit (.bool false)], args := [d1, d2] }
  | _ => none }
def SlabScriptWrongFalsely : Prop := slabScriptRow.holds Try.pinned (OpenSpec.ofChange slabScriptWrong)

/-- 'rootcellarlaw06.SlabNone': WHATEVER THE INPUT: true; the input reads as it did. -/
def slabNoneSpec : ChangeSpec := { name := "slabNone", fn := fun _ => fun
  | [d] => { results := [.lit (.bool true)], args := [d] }
  | _ => none }
def slabNoneRow : OpenClaim := { program := "ytdgdpbmaalcedaa", sum := "6a6c083e0d7352d472af2e7e75ce43b6b90dd7b05dc5bb9dd86b2ebb45348d3f", func := "rootcellar/rootcellarlaw06.SlabNone", spec := "slabNone", unfollowed := true, recurses := true, plainKeys := false, apart := false }
def SlabNoneSaid : Prop := slabNoneRow.holds Try.pinned (OpenSpec.ofChange slabNoneSpec)

/-- ITS FALSE NEIGHBOUR: 'it returns false'. Refute it at one input. -/
def slabNoneWrong : ChangeSpec := { name := "slabNone", fn := fun _ => fun
  | [d] => { results := [.lit (.bool false)], args := [d] }
  | _ => none }
def SlabNoneWrongFalsely : Prop := slabNoneRow.holds Try.pinned (OpenSpec.ofChange slabNoneWrong)

/-- 'rootcellarlaw07.StoreKnown': WHATEVER THE INPUT: true; the input reads as it did. -/
def storeKnownSpec : ChangeSpec := { name := "storeKnown", fn := fun _ => fun
  | [] => { results := [.lit (.bool true)], args := [] }
  | _ => none }
def storeKnownRow : OpenClaim := { program := "ytdgdpbmaalcedaa", sum := "6a6c083e0d7352d472af2e7e75ce43b6b90dd7b05dc5bb9dd86b2ebb45348d3f", func := "rootcellar/rootcellarlaw07.StoreKnown", spec := "storeKnown", plainKeys := false, apart := false }
def StoreKnownSaid : Prop := storeKnownRow.holds Try.pinned (OpenSpec.ofChange storeKnownSpec)

/-- ITS FALSE NEIGHBOUR: 'it returns false'. Refute it at one input. -/
def storeKnownWrong : ChangeSpec := { name := "storeKnown", fn := fun _ => fun
  | [] => { results := [.lit (.bool false)], args := [] }
  | _ => none }
def StoreKnownWrongFalsely : Prop := storeKnownRow.holds Try.pinned (OpenSpec.ofChange storeKnownWrong)

/-- 'rootcellarlaw07.StoreCounts': WHATEVER THE INPUT: true; the input reads as it did. -/
def storeCountsSpec : ChangeSpec := { name := "storeCounts", fn := fun _ => fun
  | [d1, d2] => { results := [.lit (.bool true)], args := [d1, d2] }
  | _ => none }
def storeCountsRow : OpenClaim := { program := "ytdgdpbmaalcedaa", sum := "6a6c083e0d7352d472af2e7e75ce43b6b90dd7b05dc5bb9dd86b2ebb45348d3f", func := "rootcellar/rootcellarlaw07.StoreCounts", spec := "storeCounts", plainKeys := false, apart := false }
def StoreCountsSaid : Prop := storeCountsRow.holds Try.pinned (OpenSpec.ofChange storeCountsSpec)

/-- ITS FALSE NEIGHBOUR: 'it returns false'. Refute it at one input. -/
def storeCountsWrong : ChangeSpec := { name := "storeCounts", fn := fun _ => fun
  | [d1, d2] => { results := [.lit (.bool false)], args := [d1, d2] }
  | _ => none }
def StoreCountsWrongFalsely : Prop := storeCountsRow.holds Try.pinned (OpenSpec.ofChange storeCountsWrong)

/-- 'rootcellarlaw07.StoreNone': WHATEVER THE INPUT: true; the input reads as it did. -/
def storeNoneSpec : ChangeSpec := { name := "storeNone", fn := fun _ => fun
  | [d] => { results := [.lit (.bool true)], args := [d] }
  | _ => none }
def storeNoneRow : OpenClaim := { program := "ytdgdpbmaalcedaa", sum := "6a6c083e0d7352d472af2e7e75ce43b6b90dd7b05dc5bb9dd86b2ebb45348d3f", func := "rootcellar/rootcellarlaw07.StoreNone", spec := "storeNone", plainKeys := false, apart := false }
def StoreNoneSaid : Prop := storeNoneRow.holds Try.pinned (OpenSpec.ofChange storeNoneSpec)

/-- ITS FALSE NEIGHBOUR: 'it returns false'. Refute it at one input. -/
def storeNoneWrong : ChangeSpec := { name := "storeNone", fn := fun _ => fun
  | [d] => { results := [.lit (.bool false)], args := [d] }
  | _ => none }
def StoreNoneWrongFalsely : Prop := storeNoneRow.holds Try.pinned (OpenSpec.ofChange storeNoneWrong)

/-- 'rootcellarlaw07.StoreTrees': WHATEVER THE INPUT: true; the input reads as it did. -/
def storeTreesSpec : ChangeSpec := { name := "storeTrees", fn := fun _ => fun
  | [d1, d2] => { results := [.lit (.bool true)], args := [d1, d2] }
  | _ => none }
def storeTreesRow : OpenClaim := { program := "ytdgdpbmaalcedaa", sum := "6a6c083e0d7352d472af2e7e75ce43b6b90dd7b05dc5bb9dd86b2ebb45348d3f", func := "rootcellar/rootcellarlaw07.StoreTrees", spec := "storeTrees", inPlace := ["internal/bytealg.abigen_runtime_cmpstring"], unfollowed := true, recurses := true, plainKeys := false, apart := false }
def StoreTreesSaid : Prop := storeTreesRow.holds Try.pinned (OpenSpec.ofChange storeTreesSpec)

/-- ITS FALSE NEIGHBOUR: 'it returns false'. Refute it at one input. -/
def storeTreesWrong : ChangeSpec := { name := "storeTrees", fn := fun _ => fun
  | [d1, d2] => { results := [.lit (.bool false)], args := [d1, d2] }
  | _ => none }
def StoreTreesWrongFalsely : Prop := storeTreesRow.holds Try.pinned (OpenSpec.ofChange storeTreesWrong)

/- THE SECOND FORM. 'bulk': how many values and letters a reading holds, each counted each time it is reached (what is shared counts as often as it is met; a slice's spare places count too). A statement '..UptoSaid' is the law's where the arguments, and the package variables that the reading takes, are together of bulk at most 1048576: NARROWER than '..Said'. Prove '..Said' where nothing that the law and all that it calls make is longer than what came in: it says more and counts as full. Else prove '..UptoSaid'. A law counts once. -/
mutual
def uptoBulk {H : Type} : DataW H → Nat
  | .lit (.string bytes) => bytes.length + 1
  | .lit _ => 1
  | .nil => 1
  | .ptr d => uptoBulk d + 1
  | .slice elems spare => uptoBulkAll elems + uptoBulkAll spare + 1
  | .agg parts => uptoBulkAll parts + 1
  | .iface _ d => uptoBulk d + 1
  | .map entries => uptoBulkEntries entries + 1
  | .held _ => 1
def uptoBulkAll {H : Type} : List (DataW H) → Nat
  | [] => 0
  | d :: r => uptoBulk d + uptoBulkAll r
def uptoBulkEntries {H : Type} : List (Lit × DataW H) → Nat
  | [] => 0
  | x :: r => uptoBulkEntry x + uptoBulkEntries r
def uptoBulkEntry {H : Type} : Lit × DataW H → Nat
  | (.string bytes, d) => bytes.length + uptoBulk d + 1
  | (_, d) => uptoBulk d + 1
 end
def uptoSmall : (H : Type) → List (DataW H) → Bool := fun _ ds => decide (uptoBulkAll ds ≤ 1048576)
def OpenSpec.upto (s : _root_.Go.ChangeSpec) : _root_.Go.OpenSpec := { _root_.Go.OpenSpec.ofChange s with cond := some uptoSmall }

/-- 'rootcellarlaw06.SlabKnown', WHERE WHAT IT READS IS OF BULK AT MOST 1048576: true; the input reads as it did. -/
def slabKnownUptoRow : OpenClaim := { program := "ytdgdpbmaalcedaa", sum := "6a6c083e0d7352d472af2e7e75ce43b6b90dd7b05dc5bb9dd86b2ebb45348d3f", func := "rootcellar/rootcellarlaw06.SlabKnown", spec := "slabKnown", plainKeys := false, apart := false, narrowed := true }
def SlabKnownUptoSaid : Prop := slabKnownUptoRow.holds Try.pinned (OpenSpec.upto slabKnownSpec)

/-- 'rootcellarlaw06.SlabCounts', WHERE WHAT IT READS IS OF BULK AT MOST 1048576: true; the input reads as it did. -/
def slabCountsUptoRow : OpenClaim := { program := "ytdgdpbmaalcedaa", sum := "6a6c083e0d7352d472af2e7e75ce43b6b90dd7b05dc5bb9dd86b2ebb45348d3f", func := "rootcellar/rootcellarlaw06.SlabCounts", spec := "slabCounts", plainKeys := false, apart := false, narrowed := true }
def SlabCountsUptoSaid : Prop := slabCountsUptoRow.holds Try.pinned (OpenSpec.upto slabCountsSpec)

/-- 'rootcellarlaw06.SlabScript', WHERE WHAT IT READS IS OF BULK AT MOST 1048576: true; the input reads as it did. -/
def slabScriptUptoRow : OpenClaim := { program := "ytdgdpbmaalcedaa", sum := "6a6c083e0d7352d472af2e7e75ce43b6b90dd7b05dc5bb9dd86b2ebb45348d3f", func := "rootcellar/rootcellarlaw06.SlabScript", spec := "slabScript", unfollowed := true, recurses := true, plainKeys := false, apart := false, narrowed := true }
def SlabScriptUptoSaid : Prop := slabScriptUptoRow.holds Try.pinned (OpenSpec.upto slabScriptSpec)

/-- 'rootcellarlaw06.SlabNone', WHERE WHAT IT READS IS OF BULK AT MOST 1048576: true; the input reads as it did. -/
def slabNoneUptoRow : OpenClaim := { program := "ytdgdpbmaalcedaa", sum := "6a6c083e0d7352d472af2e7e75ce43b6b90dd7b05dc5bb9dd86b2ebb45348d3f", func := "rootcellar/rootcellarlaw06.SlabNone", spec := "slabNone", unfollowed := true, recurses := true, plainKeys := false, apart := false, narrowed := true }
def SlabNoneUptoSaid : Prop := slabNoneUptoRow.holds Try.pinned (OpenSpec.upto slabNoneSpec)

/-- 'rootcellarlaw07.StoreKnown', WHERE WHAT IT READS IS OF BULK AT MOST 1048576: true; the input reads as it did. -/
def storeKnownUptoRow : OpenClaim := { program := "ytdgdpbmaalcedaa", sum := "6a6c083e0d7352d472af2e7e75ce43b6b90dd7b05dc5bb9dd86b2ebb45348d3f", func := "rootcellar/rootcellarlaw07.StoreKnown", spec := "storeKnown", plainKeys := false, apart := false, narrowed := true }
def StoreKnownUptoSaid : Prop := storeKnownUptoRow.holds Try.pinned (OpenSpec.upto storeKnownSpec)

/-- 'rootcellarlaw07.StoreCounts', WHERE WHAT IT READS IS OF BULK AT MOST 1048576: true; the input reads as it did. -/
def storeCountsUptoRow : OpenClaim := { program := "ytdgdpbmaalcedaa", sum := "6a6c083e0d7352d472af2e7e75ce43b6b90dd7b05dc5bb9dd86b2ebb45348d3f", func := "rootcellar/rootcellarlaw07.StoreCounts", spec := "storeCounts", plainKeys := false, apart := false, narrowed := true }
def StoreCountsUptoSaid : Prop := storeCountsUptoRow.holds Try.pinned (OpenSpec.upto storeCountsSpec)

/-- 'rootcellarlaw07.StoreNone', WHERE WHAT IT READS IS OF BULK AT MOST 1048576: true; the input reads as it did. -/
def storeNoneUptoRow : OpenClaim := { program := "ytdgdpbmaalcedaa", sum := "6a6c083e0d7352d472af2e7e75ce43b6b90dd7b05dc5bb9dd86b2ebb45348d3f", func := "rootcellar/rootcellarlaw07.StoreNone", spec := "storeNone", plainKeys := false, apart := false, narrowed := true }
def StoreNoneUptoSaid : Prop := storeNoneUptoRow.holds Try.pinned (OpenSpec.upto storeNoneSpec)

/-- 'rootcellarlaw07.StoreTrees', WHERE WHAT IT READS IS OF BULK AT MOST 1048576: true; the input reads as it did. -/
def storeTreesUptoRow : OpenClaim := { program := "ytdgdpbmaalcedaa", sum := "6a6c083e0d7352d472af2e7e75ce43b6b90dd7b05dc5bb9dd86b2ebb45348d3f", func := "rootcellar/rootcellarlaw07.StoreTrees", spec := "storeTrees", inPlace := ["internal/bytealg.abigen_runtime_cmpstring"], unfollowed := true, recurses := true, plainKeys := false, apart := false, narrowed := true }
def StoreTreesUptoSaid : Prop := storeTreesUptoRow.holds Try.pinned (OpenSpec.upto storeTreesSpec)

end Rows
end Go.Proofs.Ytdgdpbmaalcedaa
