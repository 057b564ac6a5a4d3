/-
  No cell of these rows narrows 'for every input' (looked for: loops, veiled, ifaces, maps, wideKeys, modest, calm, conditions, laid).
  DERIVED. THE GIVEN ROWS OF THIS SEAT. 4 by the template 'for every input the law returns true; each argument reads behind the call as it read before'; 0 by the template 'total and deterministic' (their statements: YtngbdbpofifimaaGreatTotals.lean).
  GIVEN WITH THE SEED: the statements are not yours to turn. If you find one false, say at which input.
  Laid BY PROGRAM, IN A SANDBOX (cutbox-rows.mjs): the forced cells as the released guide's own fill.sh prints them over the translation 54facb4929499a43… (all of the seat's roots in one cut). By AI agents, Wed Nov 11 2026. No macro, syntax, notation, axiom, sorry.
-/
import Derived.Test.YtngbdbpofifimaaGreatChecked
import GoSem.Claim
import GoSem.ClaimJoined
import GoSem.ClaimMapViews
import Derived.JoinedTies
import Derived.KernelRfl
namespace Go.Proofs.YtngbdbpofifimaaGreat
/- THE CELL 'sum', in the pinned program and in every row, IS THE sha256 OF THE DUMP (.gsa) THAT YtngbdbpofifimaaGreatProg.lean LOADS. Nothing in Lean hashes anything: it is a label: what it is worth is what the hold of that sum in a sandbox is worth. -/
noncomputable def Tryz.pinned : Pinned := { name := "ytngbdbpofifimaagreat", sum := "54facb4929499a4332337d6a624feaef3e4f42f638b058c5c4fadc26df43559f", checked := Tryz.checked }
namespace Rows
def none {H : Type} : Left H := { results := [], args := [] }

/-- 'rootcellartop.TopStore': WHATEVER THE INPUT: true; the input reads as it did. -/
def topStoreSpec : ChangeSpec := { name := "topStore", fn := fun _ => fun
  | [d1, d2] => { results := [.lit (.bool true)], args := [d1, d2] }
  | _ => none }
def topStoreRow : OpenClaim := { program := "ytngbdbpofifimaagreat", sum := "54facb4929499a4332337d6a624feaef3e4f42f638b058c5c4fadc26df43559f", func := "rootcellar/rootcellartop.TopStore", spec := "topStore", inPlace := ["internal/bytealg.abigen_runtime_cmpstring"], unfollowed := true, recurses := true, plainKeys := false, apart := false }
def TopStoreSaid : Prop := topStoreRow.holds Tryz.pinned (OpenSpec.ofChange topStoreSpec)

/-- ITS FALSE NEIGHBOUR: 'it returns false'. Refute it at one input. -/
def topStoreWrong : ChangeSpec := { name := "topStore", fn := fun _ => fun
  | [d1, d2] => { results := [.lit (.bool false)], args := [d1, d2] }
  | _ => none }
def TopStoreWrongFalsely : Prop := topStoreRow.holds Tryz.pinned (OpenSpec.ofChange topStoreWrong)

/-- 'rootcellarlaw13.ListCalls': WHATEVER THE INPUT: true; the input reads as it did. -/
def listCallsSpec : ChangeSpec := { name := "listCalls", fn := fun _ => fun
  | [d1, d2, d3] => { results := [.lit (.bool true)], args := [d1, d2, d3] }
  | _ => none }
def listCallsRow : OpenClaim := { program := "ytngbdbpofifimaagreat", sum := "54facb4929499a4332337d6a624feaef3e4f42f638b058c5c4fadc26df43559f", func := "rootcellar/rootcellarlaw13.ListCalls", spec := "listCalls", inPlace := ["internal/bytealg.abigen_runtime_cmpstring"], unfollowed := true, recurses := true, plainKeys := false, apart := false }
def ListCallsSaid : Prop := listCallsRow.holds Tryz.pinned (OpenSpec.ofChange listCallsSpec)

/-- ITS FALSE NEIGHBOUR: 'it returns false'. Refute it at one input. -/
def listCallsWrong : ChangeSpec := { name := "listCalls", fn := fun _ => fun
  | [d1, d2, d3] => { results := [.lit (.bool false)], args := [d1, d2, d3] }
  | _ => none }
def ListCallsWrongFalsely : Prop := listCallsRow.holds Tryz.pinned (OpenSpec.ofChange listCallsWrong)

/-- 'rootcellartop.TopOrders': WHATEVER THE INPUT: true; the input reads as it did. -/
def topOrdersSpec : ChangeSpec := { name := "topOrders", fn := fun _ => fun
  | [d1, d2, d3, d4, d5] => { results := [.lit (.bool true)], args := [d1, d2, d3, d4, d5] }
  | _ => none }
def topOrdersRow : OpenClaim := { program := "ytngbdbpofifimaagreat", sum := "54facb4929499a4332337d6a624feaef3e4f42f638b058c5c4fadc26df43559f", func := "rootcellar/rootcellartop.TopOrders", spec := "topOrders", inPlace := ["internal/bytealg.abigen_runtime_cmpstring"], unfollowed := true, recurses := true, plainKeys := false, apart := false }
def TopOrdersSaid : Prop := topOrdersRow.holds Tryz.pinned (OpenSpec.ofChange topOrdersSpec)

/-- ITS FALSE NEIGHBOUR: 'it returns false'. Refute it at one input. -/
def topOrdersWrong : ChangeSpec := { name := "topOrders", fn := fun _ => fun
  | [d1, d2, d3, d4, d5] => { results := [.lit (.bool false)], args := [d1, d2, d3, d4, d5] }
  | _ => none }
def TopOrdersWrongFalsely : Prop := topOrdersRow.holds Tryz.pinned (OpenSpec.ofChange topOrdersWrong)

/-- 'rootcellarlaw15.DictScript': WHATEVER THE INPUT: true; the input reads as it did. -/
def dictScriptSpec : ChangeSpec := { name := "dictScript", fn := fun _ => fun
  | [d1, d2] => { results := [.lit (.bool true)], args := [d1, d2] }
  | _ => none }
def dictScriptRow : OpenClaim := { program := "ytngbdbpofifimaagreat", sum := "54facb4929499a4332337d6a624feaef3e4f42f638b058c5c4fadc26df43559f", func := "rootcellar/rootcellarlaw15.DictScript", spec := "dictScript", inPlace := ["internal/bytealg.abigen_runtime_cmpstring"], unfollowed := true, recurses := true, plainKeys := false, apart := false }
def DictScriptSaid : Prop := dictScriptRow.holds Tryz.pinned (OpenSpec.ofChange dictScriptSpec)

/-- ITS FALSE NEIGHBOUR: 'it returns false'. Refute it at one input. -/
def dictScriptWrong : ChangeSpec := { name := "dictScript", fn := fun _ => fun
  | [d1, d2] => { results := [.lit (.bool false)], args := [d1, d2] }
  | _ => none }
def DictScriptWrongFalsely : Prop := dictScriptRow.holds Tryz.pinned (OpenSpec.ofChange dictScriptWrong)

/- THE SECOND FORM. 'bulk': how many values and letters a reading holds, each counted each time it is reached (what is shared counts as often as it is met; a slice's spare places count too). A statement '..UptoSaid' is the law's where the arguments, and the package variables that the reading takes, are together of bulk at most 1048576: NARROWER than '..Said'. Prove '..Said' where nothing that the law and all that it calls make is longer than what came in: it says more and counts as full. Else prove '..UptoSaid'. A law counts once. -/
mutual
def uptoBulk {H : Type} : DataW H → Nat
  | .lit (.string bytes) => bytes.length + 1
  | .lit _ => 1
  | .nil => 1
  | .ptr d => uptoBulk d + 1
  | .slice elems spare => uptoBulkAll elems + uptoBulkAll spare + 1
  | .agg parts => uptoBulkAll parts + 1
  | .iface _ d => uptoBulk d + 1
  | .map entries => uptoBulkEntries entries + 1
  | .held _ => 1
def uptoBulkAll {H : Type} : List (DataW H) → Nat
  | [] => 0
  | d :: r => uptoBulk d + uptoBulkAll r
def uptoBulkEntries {H : Type} : List (Lit × DataW H) → Nat
  | [] => 0
  | x :: r => uptoBulkEntry x + uptoBulkEntries r
def uptoBulkEntry {H : Type} : Lit × DataW H → Nat
  | (.string bytes, d) => bytes.length + uptoBulk d + 1
  | (_, d) => uptoBulk d + 1
 end
def uptoSmall : (H : Type) → List (DataW H) → Bool := fun _ ds => decide (uptoBulkAll ds ≤ 1048576)
def OpenSpec.upto (s : _root_.Go.ChangeSpec) : _root_.Go.OpenSpec := { _root_.Go.OpenSpec.ofChange s with cond := some uptoSmall }

/-- 'rootcellartop.TopStore', WHERE WHAT IT READS IS OF BULK AT MOST 1048576: true; the input reads as it did. -/
def topStoreUptoRow : OpenClaim := { program := "ytngbdbpofifimaagreat", sum := "54facb4929499a4332337d6a624feaef3e4f42f638b058c5c4fadc26df43559f", func := "rootcellar/rootcellartop.TopStore", spec := "topStore", inPlace := ["internal/bytealg.abigen_runtime_cmpstring"], unfollowed := true, recurses := true, plainKeys := false, apart := false, narrowed := true }
def TopStoreUptoSaid : Prop := topStoreUptoRow.holds Tryz.pinned (OpenSpec.upto topStoreSpec)

/-- 'rootcellarlaw13.ListCalls', WHERE WHAT IT READS IS OF BULK AT MOST 1048576: true; the input reads as it did. -/
def listCallsUptoRow : OpenClaim := { program := "ytngbdbpofifimaagreat", sum := "54facb4929499a4332337d6a624feaef3e4f42f638b058c5c4fadc26df43559f", func := "rootcellar/rootcellarlaw13.ListCalls", spec := "listCalls", inPlace := ["internal/bytealg.abigen_runtime_cmpstring"], unfollowed := true, recurses := true, plainKeys := false, apart := false, narrowed := true }
def ListCallsUptoSaid : Prop := listCallsUptoRow.holds Tryz.pinned (OpenSpec.upto listCallsSpec)

/-- 'rootcellartop.TopOrders', WHERE WHAT IT READS IS OF BULK AT MOST 1048576: true; the input reads as it did. -/
def topOrdersUptoRow : OpenClaim := { program := "ytngbdbpofifimaagreat", sum := "54facb4929499a4332337d6a624feaef3e4f42f638b058c5c4fadc26df43559f", func := "rootcellar/rootcellartop.TopOrders", spec := "topOrders", inPlace := ["internal/bytealg.abigen_runtime_cmpstring"], unfollowed := true, recurses := true, plainKeys := false, apart := false, narrowed := true }
def TopOrdersUptoSaid : Prop := topOrdersUptoRow.holds Tryz.pinned (OpenSpec.upto topOrdersSpec)

/-- 'rootcellarlaw15.DictScript', WHERE WHAT IT READS IS OF BULK AT MOST 1048576: true; the input reads as it did. -/
def dictScriptUptoRow : OpenClaim := { program := "ytngbdbpofifimaagreat", sum := "54facb4929499a4332337d6a624feaef3e4f42f638b058c5c4fadc26df43559f", func := "rootcellar/rootcellarlaw15.DictScript", spec := "dictScript", inPlace := ["internal/bytealg.abigen_runtime_cmpstring"], unfollowed := true, recurses := true, plainKeys := false, apart := false, narrowed := true }
def DictScriptUptoSaid : Prop := dictScriptUptoRow.holds Tryz.pinned (OpenSpec.upto dictScriptSpec)

end Rows
end Go.Proofs.YtngbdbpofifimaaGreat
