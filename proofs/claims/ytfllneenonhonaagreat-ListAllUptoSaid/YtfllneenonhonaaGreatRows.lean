/-
  No cell of these rows narrows 'for every input' (looked for: loops, veiled, ifaces, maps, wideKeys, modest, calm, conditions, laid).
  DERIVED. THE GIVEN ROWS OF THIS SEAT. 4 by the template 'for every input the law returns true; each argument reads behind the call as it read before'; 0 by the template 'total and deterministic' (their statements: YtfllneenonhonaaGreatTotals.lean).
  GIVEN WITH THE SEED: the statements are not yours to turn. If you find one false, say at which input.
  Laid BY PROGRAM, IN A SANDBOX (cutbox-rows.mjs): the forced cells as the released guide's own fill.sh prints them over the translation f880d2c450045751… (all of the seat's roots in one cut). By AI agents, Wed Nov 11 2026. No macro, syntax, notation, axiom, sorry.
-/
import Derived.Test.YtfllneenonhonaaGreatChecked
import GoSem.Claim
import GoSem.ClaimJoined
import GoSem.ClaimMapViews
import Derived.JoinedTies
import Derived.KernelRfl
namespace Go.Proofs.YtfllneenonhonaaGreat
/- THE CELL 'sum', in the pinned program and in every row, IS THE sha256 OF THE DUMP (.gsa) THAT YtfllneenonhonaaGreatProg.lean LOADS. Nothing in Lean hashes anything: it is a label: what it is worth is what the hold of that sum in a sandbox is worth. -/
noncomputable def Tryz.pinned : Pinned := { name := "ytfllneenonhonaagreat", sum := "f880d2c4500457517e817f427ce9b273ac4b5d256319ad9ab75d392d21138be3", checked := Tryz.checked }
namespace Rows
def none {H : Type} : Left H := { results := [], args := [] }

/-- 'rootcellarlaw13.ListCalls': WHATEVER THE INPUT: true; the input reads as it did. -/
def listCallsSpec : ChangeSpec := { name := "listCalls", fn := fun _ => fun
  | [d1, d2, d3] => { results := [.lit (.bool true)], args := [d1, d2, d3] }
  | _ => none }
def listCallsRow : OpenClaim := { program := "ytfllneenonhonaagreat", sum := "f880d2c4500457517e817f427ce9b273ac4b5d256319ad9ab75d392d21138be3", func := "rootcellar/rootcellarlaw13.ListCalls", spec := "listCalls", inPlace := ["internal/bytealg.abigen_runtime_cmpstring"], unfollowed := true, recurses := true, plainKeys := false, apart := false }
def ListCallsSaid : Prop := listCallsRow.holds Tryz.pinned (OpenSpec.ofChange listCallsSpec)

/-- ITS FALSE NEIGHBOUR: 'it returns false'. Refute it at one input. -/
def listCallsWrong : ChangeSpec := { name := "listCalls", fn := fun _ => fun
  | [d1, d2, d3] => { results := [.lit (.bool false)], args := [d1, d2, d3] }
  | _ => none }
def ListCallsWrongFalsely : Prop := listCallsRow.holds Tryz.pinned (OpenSpec.ofChange listCallsWrong)

/-- 'rootcellarlaw14.VersionsNone': WHATEVER THE INPUT: true; the input reads as it did. -/
def versionsNoneSpec : ChangeSpec := { name := "versionsNone", fn := fun _ => fun
  | [d] => { results := [.lit (.bool true)], args := [d] }
  | _ => none }
def versionsNoneRow : OpenClaim := { program := "ytfllneenonhonaagreat", sum := "f880d2c4500457517e817f427ce9b273ac4b5d256319ad9ab75d392d21138be3", func := "rootcellar/rootcellarlaw14.VersionsNone", spec := "versionsNone", recurses := true, plainKeys := false, apart := false }
def VersionsNoneSaid : Prop := versionsNoneRow.holds Tryz.pinned (OpenSpec.ofChange versionsNoneSpec)

/-- ITS FALSE NEIGHBOUR: 'it returns false'. Refute it at one input. -/
def versionsNoneWrong : ChangeSpec := { name := "versionsNone", fn := fun _ => fun
  | [d] => { results := [.lit (.bool false)], args := [d] }
  | _ => none }
def VersionsNoneWrongFalsely : Prop := versionsNoneRow.holds Tryz.pinned (OpenSpec.ofChange versionsNoneWrong)

/-- 'rootcellarlaw13.ListAll': WHATEVER THE INPUT: true; the input reads as it did. -/
def listAllSpec : ChangeSpec := { name := "listAll", fn := fun _ => fun
  | [d1, d2] => { results := [.lit (.bool true)], args := [d1, d2] }
  | _ => none }
def listAllRow : OpenClaim := { program := "ytfllneenonhonaagreat", sum := "f880d2c4500457517e817f427ce9b273ac4b5d256319ad9ab75d392d21138be3", func := "rootcellar/rootcellarlaw13.ListAll", spec := "listAll", inPlace := ["internal/bytealg.abigen_runtime_cmpstring"], unfollowed := true, recurses := true, plainKeys := false, apart := false }
def ListAllSaid : Prop := listAllRow.holds Tryz.pinned (OpenSpec.ofChange listAllSpec)

/-- ITS FALSE NEIGHBOUR: 'it returns false'. Refute it at one input. -/
def listAllWrong : ChangeSpec := { name := "listAll", fn := fun _ => fun
  | [d1, d2] => { results := [.lit (.bool false)], args := [d1, d2] }
  | _ => none }
def ListAllWrongFalsely : Prop := listAllRow.holds Tryz.pinned (OpenSpec.ofChange listAllWrong)

/-- 'rootcellarlaw13.ListRanks': WHATEVER THE INPUT: true; the input reads as it did. -/
def listRanksSpec : ChangeSpec := { name := "listRanks", fn := fun _ => fun
  | [d1, d2, d3] => { results := [.lit (.bool true)], args := [d1, d2, d3] }
  | _ => none }
def listRanksRow : OpenClaim := { program := "ytfllneenonhonaagreat", sum := "f880d2c4500457517e817f427ce9b273ac4b5d256319ad9ab75d392d21138be3", func := "rootcellar/rootcellarlaw13.ListRanks", spec := "listRanks", inPlace := ["internal/bytealg.abigen_runtime_cmpstring"], unfollowed := true, recurses := true, plainKeys := false, apart := false }
def ListRanksSaid : Prop := listRanksRow.holds Tryz.pinned (OpenSpec.ofChange listRanksSpec)

/-- ITS FALSE NEIGHBOUR: 'it returns false'. Refute it at one input. -/
def listRanksWrong : ChangeSpec := { name := "listRanks", fn := fun _ => fun
  | [d1, d2, d3] => { results := [.lit (.bool false)], args := [d1, d2, d3] }
  | _ => none }
def ListRanksWrongFalsely : Prop := listRanksRow.holds Tryz.pinned (OpenSpec.ofChange listRanksWrong)

/- THE SECOND FORM. 'bulk': how many values and letters a reading holds, each counted each time it is reached (what is shared counts as often as it is met; a slice's spare places count too). A statement '..UptoSaid' is the law's where the arguments, and the package variables that the reading takes, are together of bulk at most 1048576: NARROWER than '..Said'. Prove '..Said' where nothing that the law and all that it calls make is longer than what came in: it says more and counts as full. Else prove '..UptoSaid'. A law counts once. -/
mutual
def uptoBulk {H : Type} : DataW H → Nat
  | .lit (.string bytes) => bytes.length + 1
  | .lit _ => 1
  | .nil => 1
  | .ptr d => uptoBulk d + 1
  | .slice elems spare => uptoBulkAll elems + uptoBulkAll spare + 1
  | .agg parts => uptoBulkAll parts + 1
  | .iface _ d => uptoBulk d + 1
  | .map entries => uptoBulkEntries entries + 1
  | .held _ => 1
def uptoBulkAll {H : Type} : List (DataW H) → Nat
  | [] => 0
  | d :: r => uptoBulk d + uptoBulkAll r
def uptoBulkEntries {H : Type} : List (Lit × DataW H) → Nat
  | [] => 0
  | x :: r => uptoBulkEntry x + uptoBulkEntries r
def uptoBulkEntry {H : Type} : Lit × DataW H → Nat
  | (.string bytes, d) => bytes.length + uptoBulk d + 1
  | (_, d) => uptoBulk d + 1
 end
def uptoSmall : (H : Type) → List (DataW H) → Bool := fun _ ds => decide (uptoBulkAll ds ≤ 1048576)
def OpenSpec.upto (s : _root_.Go.ChangeSpec) : _root_.Go.OpenSpec := { _root_.Go.OpenSpec.ofChange s with cond := some uptoSmall }

/-- 'rootcellarlaw13.ListCalls', WHERE WHAT IT READS IS OF BULK AT MOST 1048576: true; the input reads as it did. -/
def listCallsUptoRow : OpenClaim := { program := "ytfllneenonhonaagreat", sum := "f880d2c4500457517e817f427ce9b273ac4b5d256319ad9ab75d392d21138be3", func := "rootcellar/rootcellarlaw13.ListCalls", spec := "listCalls", inPlace := ["internal/bytealg.abigen_runtime_cmpstring"], unfollowed := true, recurses := true, plainKeys := false, apart := false, narrowed := true }
def ListCallsUptoSaid : Prop := listCallsUptoRow.holds Tryz.pinned (OpenSpec.upto listCallsSpec)

/-- 'rootcellarlaw14.VersionsNone', WHERE WHAT IT READS IS OF BULK AT MOST 1048576: true; the input reads as it did. -/
def versionsNoneUptoRow : OpenClaim := { program := "ytfllneenonhonaagreat", sum := "f880d2c4500457517e817f427ce9b273ac4b5d256319ad9ab75d392d21138be3", func := "rootcellar/rootcellarlaw14.VersionsNone", spec := "versionsNone", recurses := true, plainKeys := false, apart := false, narrowed := true }
def VersionsNoneUptoSaid : Prop := versionsNoneUptoRow.holds Tryz.pinned (OpenSpec.upto versionsNoneSpec)

/-- 'rootcellarlaw13.ListAll', WHERE WHAT IT READS IS OF BULK AT MOST 1048576: true; the input reads as it did. -/
def listAllUptoRow : OpenClaim := { program := "ytfllneenonhonaagreat", sum := "f880d2c4500457517e817f427ce9b273ac4b5d256319ad9ab75d392d21138be3", func := "rootcellar/rootcellarlaw13.ListAll", spec := "listAll", inPlace := ["internal/bytealg.abigen_runtime_cmpstring"], unfollowed := true, recurses := true, plainKeys := false, apart := false, narrowed := true }
def ListAllUptoSaid : Prop := listAllUptoRow.holds Tryz.pinned (OpenSpec.upto listAllSpec)

/-- 'rootcellarlaw13.ListRanks', WHERE WHAT IT READS IS OF BULK AT MOST 1048576: true; the input reads as it did. -/
def listRanksUptoRow : OpenClaim := { program := "ytfllneenonhonaagreat", sum := "f880d2c4500457517e817f427ce9b273ac4b5d256319ad9ab75d392d21138be3", func := "rootcellar/rootcellarlaw13.ListRanks", spec := "listRanks", inPlace := ["internal/bytealg.abigen_runtime_cmpstring"], unfollowed := true, recurses := true, plainKeys := false, apart := false, narrowed := true }
def ListRanksUptoSaid : Prop := listRanksUptoRow.holds Tryz.pinned (OpenSpec.upto listRanksSpec)

end Rows
end Go.Proofs.YtfllneenonhonaaGreat
