/-
  No cell of these rows narrows 'for every input' (looked for: loops, veiled, ifaces, maps, wideKeys, modest, calm, conditions, laid).
  DERIVED. THE GIVEN ROWS OF THIS SEAT. 12 by the template 'for every input the law returns true; each argument reads behind the call as it read before'; 0 by the template 'total and deterministic' (their statements: YtmeglndnkdgkoaaGreatTotals.lean).
  GIVEN WITH THE SEED: the statements are not yours to turn. If you find one false, say at which input.
  Laid BY PROGRAM, IN A SANDBOX (cutbox-rows.mjs): the forced cells as the released guide's own fill.sh prints them over the translation 4b07b45a33aaa7c7… (all of the seat's roots in one cut). By AI agents, Wed Nov 11 2026. No macro, syntax, notation, axiom, sorry.
-/
import Derived.Test.YtmeglndnkdgkoaaGreatChecked
import GoSem.Claim
import GoSem.ClaimJoined
import GoSem.ClaimMapViews
import Derived.JoinedTies
import Derived.KernelRfl
namespace Go.Proofs.YtmeglndnkdgkoaaGreat
/- THE CELL 'sum', in the pinned program and in every row, IS THE sha256 OF THE DUMP (.gsa) THAT YtmeglndnkdgkoaaGreatProg.lean LOADS. Nothing in Lean hashes anything: it is a label: what it is worth is what the hold of that sum in a sandbox is worth. -/
noncomputable def Tryz.pinned : Pinned := { name := "ytmeglndnkdgkoaagreat", sum := "4b07b45a33aaa7c7ff9f8b8c6f5755df7a69c9c1aee99eadaad8e0d3a3f03d32", checked := Tryz.checked }
namespace Rows
def none {H : Type} : Left H := { results := [], args := [] }

/-- 'rootcellarlaw07.StoreScript': WHATEVER THE INPUT: true; the input reads as it did. -/
def storeScriptSpec : ChangeSpec := { name := "storeScript", fn := fun _ => fun
  | [d1, d2] => { results := [.lit (.bool true)], args := [d1, d2] }
  | _ => none }
def storeScriptRow : OpenClaim := { program := "ytmeglndnkdgkoaagreat", sum := "4b07b45a33aaa7c7ff9f8b8c6f5755df7a69c9c1aee99eadaad8e0d3a3f03d32", func := "rootcellar/rootcellarlaw07.StoreScript", spec := "storeScript", recurses := true, plainKeys := false, apart := false }
def StoreScriptSaid : Prop := storeScriptRow.holds Tryz.pinned (OpenSpec.ofChange storeScriptSpec)

/-- ITS FALSE NEIGHBOUR: 'it returns false'. Refute it at one input. -/
def storeScriptWrong : ChangeSpec := { name := "storeScript", fn := fun _ => fun
  | [d1, d2] => { results := [.lit (.bool false)], args := [d1, d2] }
  | _ => none }
def StoreScriptWrongFalsely : Prop := storeScriptRow.holds Tryz.pinned (OpenSpec.ofChange storeScriptWrong)

/-- 'rootcellarlaw09.PutScript': WHATEVER THE INPUT: true; the input reads as it did. -/
def putScriptSpec : ChangeSpec := { name := "putScript", fn := fun _ => fun
  | [d1, d2] => { results := [.lit (.bool true)], args := [d1, d2] }
  | _ => none }
def putScriptRow : OpenClaim := { program := "ytmeglndnkdgkoaagreat", sum := "4b07b45a33aaa7c7ff9f8b8c6f5755df7a69c9c1aee99eadaad8e0d3a3f03d32", func := "rootcellar/rootcellarlaw09.PutScript", spec := "putScript", recurses := true, plainKeys := false, apart := false }
def PutScriptSaid : Prop := putScriptRow.holds Tryz.pinned (OpenSpec.ofChange putScriptSpec)

/-- ITS FALSE NEIGHBOUR: 'it returns false'. Refute it at one input. -/
def putScriptWrong : ChangeSpec := { name := "putScript", fn := fun _ => fun
  | [d1, d2] => { results := [.lit (.bool false)], args := [d1, d2] }
  | _ => none }
def PutScriptWrongFalsely : Prop := putScriptRow.holds Tryz.pinned (OpenSpec.ofChange putScriptWrong)

/-- 'rootcellarlaw09.PutOther': WHATEVER THE INPUT: true; the input reads as it did. -/
def putOtherSpec : ChangeSpec := { name := "putOther", fn := fun _ => fun
  | [d1, d2, d3] => { results := [.lit (.bool true)], args := [d1, d2, d3] }
  | _ => none }
def putOtherRow : OpenClaim := { program := "ytmeglndnkdgkoaagreat", sum := "4b07b45a33aaa7c7ff9f8b8c6f5755df7a69c9c1aee99eadaad8e0d3a3f03d32", func := "rootcellar/rootcellarlaw09.PutOther", spec := "putOther", recurses := true, plainKeys := false, apart := false }
def PutOtherSaid : Prop := putOtherRow.holds Tryz.pinned (OpenSpec.ofChange putOtherSpec)

/-- ITS FALSE NEIGHBOUR: 'it returns false'. Refute it at one input. -/
def putOtherWrong : ChangeSpec := { name := "putOther", fn := fun _ => fun
  | [d1, d2, d3] => { results := [.lit (.bool false)], args := [d1, d2, d3] }
  | _ => none }
def PutOtherWrongFalsely : Prop := putOtherRow.holds Tryz.pinned (OpenSpec.ofChange putOtherWrong)

/-- 'rootcellarlaw10.DropScript': WHATEVER THE INPUT: true; the input reads as it did. -/
def dropScriptSpec : ChangeSpec := { name := "dropScript", fn := fun _ => fun
  | [d1, d2] => { results := [.lit (.bool true)], args := [d1, d2] }
  | _ => none }
def dropScriptRow : OpenClaim := { program := "ytmeglndnkdgkoaagreat", sum := "4b07b45a33aaa7c7ff9f8b8c6f5755df7a69c9c1aee99eadaad8e0d3a3f03d32", func := "rootcellar/rootcellarlaw10.DropScript", spec := "dropScript", recurses := true, plainKeys := false, apart := false }
def DropScriptSaid : Prop := dropScriptRow.holds Tryz.pinned (OpenSpec.ofChange dropScriptSpec)

/-- ITS FALSE NEIGHBOUR: 'it returns false'. Refute it at one input. -/
def dropScriptWrong : ChangeSpec := { name := "dropScript", fn := fun _ => fun
  | [d1, d2] => { results := [.lit (.bool false)], args := [d1, d2] }
  | _ => none }
def DropScriptWrongFalsely : Prop := dropScriptRow.holds Tryz.pinned (OpenSpec.ofChange dropScriptWrong)

/-- 'rootcellarlaw10.DropOther': WHATEVER THE INPUT: true; the input reads as it did. -/
def dropOtherSpec : ChangeSpec := { name := "dropOther", fn := fun _ => fun
  | [d1, d2, d3, d4] => { results := [.lit (.bool true)], args := [d1, d2, d3, d4] }
  | _ => none }
def dropOtherRow : OpenClaim := { program := "ytmeglndnkdgkoaagreat", sum := "4b07b45a33aaa7c7ff9f8b8c6f5755df7a69c9c1aee99eadaad8e0d3a3f03d32", func := "rootcellar/rootcellarlaw10.DropOther", spec := "dropOther", recurses := true, plainKeys := false, apart := false }
def DropOtherSaid : Prop := dropOtherRow.holds Tryz.pinned (OpenSpec.ofChange dropOtherSpec)

/-- ITS FALSE NEIGHBOUR: 'it returns false'. Refute it at one input. -/
def dropOtherWrong : ChangeSpec := { name := "dropOther", fn := fun _ => fun
  | [d1, d2, d3, d4] => { results := [.lit (.bool false)], args := [d1, d2, d3, d4] }
  | _ => none }
def DropOtherWrongFalsely : Prop := dropOtherRow.holds Tryz.pinned (OpenSpec.ofChange dropOtherWrong)

/-- 'rootcellarlaw13.ListCalls': WHATEVER THE INPUT: true; the input reads as it did. -/
def listCallsSpec : ChangeSpec := { name := "listCalls", fn := fun _ => fun
  | [d1, d2, d3] => { results := [.lit (.bool true)], args := [d1, d2, d3] }
  | _ => none }
def listCallsRow : OpenClaim := { program := "ytmeglndnkdgkoaagreat", sum := "4b07b45a33aaa7c7ff9f8b8c6f5755df7a69c9c1aee99eadaad8e0d3a3f03d32", func := "rootcellar/rootcellarlaw13.ListCalls", spec := "listCalls", inPlace := ["internal/bytealg.abigen_runtime_cmpstring"], unfollowed := true, recurses := true, plainKeys := false, apart := false }
def ListCallsSaid : Prop := listCallsRow.holds Tryz.pinned (OpenSpec.ofChange listCallsSpec)

/-- ITS FALSE NEIGHBOUR: 'it returns false'. Refute it at one input. -/
def listCallsWrong : ChangeSpec := { name := "listCalls", fn := fun _ => fun
  | [d1, d2, d3] => { results := [.lit (.bool false)], args := [d1, d2, d3] }
  | _ => none }
def ListCallsWrongFalsely : Prop := listCallsRow.holds Tryz.pinned (OpenSpec.ofChange listCallsWrong)

/-- 'rootcellarlaw12.AuditHands': WHATEVER THE INPUT: true; the input reads as it did. -/
def auditHandsSpec : ChangeSpec := { name := "auditHands", fn := fun _ => fun
  | [d1, d2, d3, d4] => { results := [.lit (.bool true)], args := [d1, d2, d3, d4] }
  | _ => none }
def auditHandsRow : OpenClaim := { program := "ytmeglndnkdgkoaagreat", sum := "4b07b45a33aaa7c7ff9f8b8c6f5755df7a69c9c1aee99eadaad8e0d3a3f03d32", func := "rootcellar/rootcellarlaw12.AuditHands", spec := "auditHands", inPlace := ["internal/bytealg.abigen_runtime_cmpstring"], unfollowed := true, recurses := true, plainKeys := false, apart := false }
def AuditHandsSaid : Prop := auditHandsRow.holds Tryz.pinned (OpenSpec.ofChange auditHandsSpec)

/-- ITS FALSE NEIGHBOUR: 'it returns false'. Refute it at one input. -/
def auditHandsWrong : ChangeSpec := { name := "auditHands", fn := fun _ => fun
  | [d1, d2, d3, d4] => { results := [.lit (.bool false)], args := [d1, d2, d3, d4] }
  | _ => none }
def AuditHandsWrongFalsely : Prop := auditHandsRow.holds Tryz.pinned (OpenSpec.ofChange auditHandsWrong)

/-- 'rootcellarlaw12.AuditParts': WHATEVER THE INPUT: true; the input reads as it did. -/
def auditPartsSpec : ChangeSpec := { name := "auditParts", fn := fun _ => fun
  | [d1, d2, d3, d4] => { results := [.lit (.bool true)], args := [d1, d2, d3, d4] }
  | _ => none }
def auditPartsRow : OpenClaim := { program := "ytmeglndnkdgkoaagreat", sum := "4b07b45a33aaa7c7ff9f8b8c6f5755df7a69c9c1aee99eadaad8e0d3a3f03d32", func := "rootcellar/rootcellarlaw12.AuditParts", spec := "auditParts", unfollowed := true, recurses := true, plainKeys := false, apart := false }
def AuditPartsSaid : Prop := auditPartsRow.holds Tryz.pinned (OpenSpec.ofChange auditPartsSpec)

/-- ITS FALSE NEIGHBOUR: 'it returns false'. Refute it at one input. -/
def auditPartsWrong : ChangeSpec := { name := "auditParts", fn := fun _ => fun
  | [d1, d2, d3, d4] => { results := [.lit (.bool false)], args := [d1, d2, d3, d4] }
  | _ => none }
def AuditPartsWrongFalsely : Prop := auditPartsRow.holds Tryz.pinned (OpenSpec.ofChange auditPartsWrong)

/-- 'rootcellarlaw12.AuditCalls': WHATEVER THE INPUT: true; the input reads as it did. -/
def auditCallsSpec : ChangeSpec := { name := "auditCalls", fn := fun _ => fun
  | [d1, d2, d3] => { results := [.lit (.bool true)], args := [d1, d2, d3] }
  | _ => none }
def auditCallsRow : OpenClaim := { program := "ytmeglndnkdgkoaagreat", sum := "4b07b45a33aaa7c7ff9f8b8c6f5755df7a69c9c1aee99eadaad8e0d3a3f03d32", func := "rootcellar/rootcellarlaw12.AuditCalls", spec := "auditCalls", unfollowed := true, recurses := true, plainKeys := false, apart := false }
def AuditCallsSaid : Prop := auditCallsRow.holds Tryz.pinned (OpenSpec.ofChange auditCallsSpec)

/-- ITS FALSE NEIGHBOUR: 'it returns false'. Refute it at one input. -/
def auditCallsWrong : ChangeSpec := { name := "auditCalls", fn := fun _ => fun
  | [d1, d2, d3] => { results := [.lit (.bool false)], args := [d1, d2, d3] }
  | _ => none }
def AuditCallsWrongFalsely : Prop := auditCallsRow.holds Tryz.pinned (OpenSpec.ofChange auditCallsWrong)

/-- 'rootcellarlaw12.AuditClean': WHATEVER THE INPUT: true; the input reads as it did. -/
def auditCleanSpec : ChangeSpec := { name := "auditClean", fn := fun _ => fun
  | [d1, d2, d3] => { results := [.lit (.bool true)], args := [d1, d2, d3] }
  | _ => none }
def auditCleanRow : OpenClaim := { program := "ytmeglndnkdgkoaagreat", sum := "4b07b45a33aaa7c7ff9f8b8c6f5755df7a69c9c1aee99eadaad8e0d3a3f03d32", func := "rootcellar/rootcellarlaw12.AuditClean", spec := "auditClean", inPlace := ["internal/bytealg.abigen_runtime_cmpstring"], unfollowed := true, recurses := true, plainKeys := false, apart := false }
def AuditCleanSaid : Prop := auditCleanRow.holds Tryz.pinned (OpenSpec.ofChange auditCleanSpec)

/-- ITS FALSE NEIGHBOUR: 'it returns false'. Refute it at one input. -/
def auditCleanWrong : ChangeSpec := { name := "auditClean", fn := fun _ => fun
  | [d1, d2, d3] => { results := [.lit (.bool false)], args := [d1, d2, d3] }
  | _ => none }
def AuditCleanWrongFalsely : Prop := auditCleanRow.holds Tryz.pinned (OpenSpec.ofChange auditCleanWrong)

/-- 'rootcellarlaw12.AuditNone': WHATEVER THE INPUT: true; the input reads as it did. -/
def auditNoneSpec : ChangeSpec := { name := "auditNone", fn := fun _ => fun
  | [d] => { results := [.lit (.bool true)], args := [d] }
  | _ => none }
def auditNoneRow : OpenClaim := { program := "ytmeglndnkdgkoaagreat", sum := "4b07b45a33aaa7c7ff9f8b8c6f5755df7a69c9c1aee99eadaad8e0d3a3f03d32", func := "rootcellar/rootcellarlaw12.AuditNone", spec := "auditNone", inPlace := ["internal/bytealg.abigen_runtime_cmpstring"], unfollowed := true, recurses := true, plainKeys := false, apart := false }
def AuditNoneSaid : Prop := auditNoneRow.holds Tryz.pinned (OpenSpec.ofChange auditNoneSpec)

/-- ITS FALSE NEIGHBOUR: 'it returns false'. Refute it at one input. -/
def auditNoneWrong : ChangeSpec := { name := "auditNone", fn := fun _ => fun
  | [d] => { results := [.lit (.bool false)], args := [d] }
  | _ => none }
def AuditNoneWrongFalsely : Prop := auditNoneRow.holds Tryz.pinned (OpenSpec.ofChange auditNoneWrong)

/-- 'rootcellarlaw12.AuditKnown': WHATEVER THE INPUT: true; the input reads as it did. -/
def auditKnownSpec : ChangeSpec := { name := "auditKnown", fn := fun _ => fun
  | [] => { results := [.lit (.bool true)], args := [] }
  | _ => none }
def auditKnownRow : OpenClaim := { program := "ytmeglndnkdgkoaagreat", sum := "4b07b45a33aaa7c7ff9f8b8c6f5755df7a69c9c1aee99eadaad8e0d3a3f03d32", func := "rootcellar/rootcellarlaw12.AuditKnown", spec := "auditKnown", inPlace := ["internal/bytealg.abigen_runtime_cmpstring"], unfollowed := true, recurses := true, plainKeys := false, apart := false }
def AuditKnownSaid : Prop := auditKnownRow.holds Tryz.pinned (OpenSpec.ofChange auditKnownSpec)

/-- ITS FALSE NEIGHBOUR: 'it returns false'. Refute it at one input. -/
def auditKnownWrong : ChangeSpec := { name := "auditKnown", fn := fun _ => fun
  | [] => { results := [.lit (.bool false)], args := [] }
  | _ => none }
def AuditKnownWrongFalsely : Prop := auditKnownRow.holds Tryz.pinned (OpenSpec.ofChange auditKnownWrong)

/- THE SECOND FORM. 'bulk': how many values and letters a reading holds, each counted each time it is reached (what is shared counts as often as it is met; a slice's spare places count too). A statement '..UptoSaid' is the law's where the arguments, and the package variables that the reading takes, are together of bulk at most 1048576: NARROWER than '..Said'. Prove '..Said' where nothing that the law and all that it calls make is longer than what came in: it says more and counts as full. Else prove '..UptoSaid'. A law counts once. -/
mutual
def uptoBulk {H : Type} : DataW H → Nat
  | .lit (.string bytes) => bytes.length + 1
  | .lit _ => 1
  | .nil => 1
  | .ptr d => uptoBulk d + 1
  | .slice elems spare => uptoBulkAll elems + uptoBulkAll spare + 1
  | .agg parts => uptoBulkAll parts + 1
  | .iface _ d => uptoBulk d + 1
  | .map entries => uptoBulkEntries entries + 1
  | .held _ => 1
def uptoBulkAll {H : Type} : List (DataW H) → Nat
  | [] => 0
  | d :: r => uptoBulk d + uptoBulkAll r
def uptoBulkEntries {H : Type} : List (Lit × DataW H) → Nat
  | [] => 0
  | x :: r => uptoBulkEntry x + uptoBulkEntries r
def uptoBulkEntry {H : Type} : Lit × DataW H → Nat
  | (.string bytes, d) => bytes.length + uptoBulk d + 1
  | (_, d) => uptoBulk d + 1
 end
def uptoSmall : (H : Type) → List (DataW H) → Bool := fun _ ds => decide (uptoBulkAll ds ≤ 1048576)
def OpenSpec.upto (s : _root_.Go.ChangeSpec) : _root_.Go.OpenSpec := { _root_.Go.OpenSpec.ofChange s with cond := some uptoSmall }

/-- 'rootcellarlaw07.StoreScript', WHERE WHAT IT READS IS OF BULK AT MOST 1048576: true; the input reads as it did. -/
def storeScriptUptoRow : OpenClaim := { program := "ytmeglndnkdgkoaagreat", sum := "4b07b45a33aaa7c7ff9f8b8c6f5755df7a69c9c1aee99eadaad8e0d3a3f03d32", func := "rootcellar/rootcellarlaw07.StoreScript", spec := "storeScript", recurses := true, plainKeys := false, apart := false, narrowed := true }
def StoreScriptUptoSaid : Prop := storeScriptUptoRow.holds Tryz.pinned (OpenSpec.upto storeScriptSpec)

/-- 'rootcellarlaw09.PutScript', WHERE WHAT IT READS IS OF BULK AT MOST 1048576: true; the input reads as it did. -/
def putScriptUptoRow : OpenClaim := { program := "ytmeglndnkdgkoaagreat", sum := "4b07b45a33aaa7c7ff9f8b8c6f5755df7a69c9c1aee99eadaad8e0d3a3f03d32", func := "rootcellar/rootcellarlaw09.PutScript", spec := "putScript", recurses := true, plainKeys := false, apart := false, narrowed := true }
def PutScriptUptoSaid : Prop := putScriptUptoRow.holds Tryz.pinned (OpenSpec.upto putScriptSpec)

/-- 'rootcellarlaw09.PutOther', WHERE WHAT IT READS IS OF BULK AT MOST 1048576: true; the input reads as it did. -/
def putOtherUptoRow : OpenClaim := { program := "ytmeglndnkdgkoaagreat", sum := "4b07b45a33aaa7c7ff9f8b8c6f5755df7a69c9c1aee99eadaad8e0d3a3f03d32", func := "rootcellar/rootcellarlaw09.PutOther", spec := "putOther", recurses := true, plainKeys := false, apart := false, narrowed := true }
def PutOtherUptoSaid : Prop := putOtherUptoRow.holds Tryz.pinned (OpenSpec.upto putOtherSpec)

/-- 'rootcellarlaw10.DropScript', WHERE WHAT IT READS IS OF BULK AT MOST 1048576: true; the input reads as it did. -/
def dropScriptUptoRow : OpenClaim := { program := "ytmeglndnkdgkoaagreat", sum := "4b07b45a33aaa7c7ff9f8b8c6f5755df7a69c9c1aee99eadaad8e0d3a3f03d32", func := "rootcellar/rootcellarlaw10.DropScript", spec := "dropScript", recurses := true, plainKeys := false, apart := false, narrowed := true }
def DropScriptUptoSaid : Prop := dropScriptUptoRow.holds Tryz.pinned (OpenSpec.upto dropScriptSpec)

/-- 'rootcellarlaw10.DropOther', WHERE WHAT IT READS IS OF BULK AT MOST 1048576: true; the input reads as it did. -/
def dropOtherUptoRow : OpenClaim := { program := "ytmeglndnkdgkoaagreat", sum := "4b07b45a33aaa7c7ff9f8b8c6f5755df7a69c9c1aee99eadaad8e0d3a3f03d32", func := "rootcellar/rootcellarlaw10.DropOther", spec := "dropOther", recurses := true, plainKeys := false, apart := false, narrowed := true }
def DropOtherUptoSaid : Prop := dropOtherUptoRow.holds Tryz.pinned (OpenSpec.upto dropOtherSpec)

/-- 'rootcellarlaw13.ListCalls', WHERE WHAT IT READS IS OF BULK AT MOST 1048576: true; the input reads as it did. -/
def listCallsUptoRow : OpenClaim := { program := "ytmeglndnkdgkoaagreat", sum := "4b07b45a33aaa7c7ff9f8b8c6f5755df7a69c9c1aee99eadaad8e0d3a3f03d32", func := "rootcellar/rootcellarlaw13.ListCalls", spec := "listCalls", inPlace := ["internal/bytealg.abigen_runtime_cmpstring"], unfollowed := true, recurses := true, plainKeys := false, apart := false, narrowed := true }
def ListCallsUptoSaid : Prop := listCallsUptoRow.holds Tryz.pinned (OpenSpec.upto listCallsSpec)

/-- 'rootcellarlaw12.AuditHands', WHERE WHAT IT READS IS OF BULK AT MOST 1048576: true; the input reads as it did. -/
def auditHandsUptoRow : OpenClaim := { program := "ytmeglndnkdgkoaagreat", sum := "4b07b45a33aaa7c7ff9f8b8c6f5755df7a69c9c1aee99eadaad8e0d3a3f03d32", func := "rootcellar/rootcellarlaw12.AuditHands", spec := "auditHands", inPlace := ["internal/bytealg.abigen_runtime_cmpstring"], unfollowed := true, recurses := true, plainKeys := false, apart := false, narrowed := true }
def AuditHandsUptoSaid : Prop := auditHandsUptoRow.holds Tryz.pinned (OpenSpec.upto auditHandsSpec)

/-- 'rootcellarlaw12.AuditParts', WHERE WHAT IT READS IS OF BULK AT MOST 1048576: true; the input reads as it did. -/
def auditPartsUptoRow : OpenClaim := { program := "ytmeglndnkdgkoaagreat", sum := "4b07b45a33aaa7c7ff9f8b8c6f5755df7a69c9c1aee99eadaad8e0d3a3f03d32", func := "rootcellar/rootcellarlaw12.AuditParts", spec := "auditParts", unfollowed := true, recurses := true, plainKeys := false, apart := false, narrowed := true }
def AuditPartsUptoSaid : Prop := auditPartsUptoRow.holds Tryz.pinned (OpenSpec.upto auditPartsSpec)

/-- 'rootcellarlaw12.AuditCalls', WHERE WHAT IT READS IS OF BULK AT MOST 1048576: true; the input reads as it did. -/
def auditCallsUptoRow : OpenClaim := { program := "ytmeglndnkdgkoaagreat", sum := "4b07b45a33aaa7c7ff9f8b8c6f5755df7a69c9c1aee99eadaad8e0d3a3f03d32", func := "rootcellar/rootcellarlaw12.AuditCalls", spec := "auditCalls", unfollowed := true, recurses := true, plainKeys := false, apart := false, narrowed := true }
def AuditCallsUptoSaid : Prop := auditCallsUptoRow.holds Tryz.pinned (OpenSpec.upto auditCallsSpec)

/-- 'rootcellarlaw12.AuditClean', WHERE WHAT IT READS IS OF BULK AT MOST 1048576: true; the input reads as it did. -/
def auditCleanUptoRow : OpenClaim := { program := "ytmeglndnkdgkoaagreat", sum := "4b07b45a33aaa7c7ff9f8b8c6f5755df7a69c9c1aee99eadaad8e0d3a3f03d32", func := "rootcellar/rootcellarlaw12.AuditClean", spec := "auditClean", inPlace := ["internal/bytealg.abigen_runtime_cmpstring"], unfollowed := true, recurses := true, plainKeys := false, apart := false, narrowed := true }
def AuditCleanUptoSaid : Prop := auditCleanUptoRow.holds Tryz.pinned (OpenSpec.upto auditCleanSpec)

/-- 'rootcellarlaw12.AuditNone', WHERE WHAT IT READS IS OF BULK AT MOST 1048576: true; the input reads as it did. -/
def auditNoneUptoRow : OpenClaim := { program := "ytmeglndnkdgkoaagreat", sum := "4b07b45a33aaa7c7ff9f8b8c6f5755df7a69c9c1aee99eadaad8e0d3a3f03d32", func := "rootcellar/rootcellarlaw12.AuditNone", spec := "auditNone", inPlace := ["internal/bytealg.abigen_runtime_cmpstring"], unfollowed := true, recurses := true, plainKeys := false, apart := false, narrowed := true }
def AuditNoneUptoSaid : Prop := auditNoneUptoRow.holds Tryz.pinned (OpenSpec.upto auditNoneSpec)

/-- 'rootcellarlaw12.AuditKnown', WHERE WHAT IT READS IS OF BULK AT MOST 1048576: true; the input reads as it did. -/
def auditKnownUptoRow : OpenClaim := { program := "ytmeglndnkdgkoaagreat", sum := "4b07b45a33aaa7c7ff9f8b8c6f5755df7a69c9c1aee99eadaad8e0d3a3f03d32", func := "rootcellar/rootcellarlaw12.AuditKnown", spec := "auditKnown", inPlace := ["internal/bytealg.abigen_runtime_cmpstring"], unfollowed := true, recurses := true, plainKeys := false, apart := false, narrowed := true }
def AuditKnownUptoSaid : Prop := auditKnownUptoRow.holds Tryz.pinned (OpenSpec.upto auditKnownSpec)

end Rows
end Go.Proofs.YtmeglndnkdgkoaaGreat
