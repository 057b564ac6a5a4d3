/-
  No cell of these rows narrows 'for every input' (looked for: loops, veiled, ifaces, maps, wideKeys, modest, calm, conditions, laid).
  DERIVED. THE GIVEN ROWS OF THIS SEAT. 7 by the template 'for every input the law returns true; each argument reads behind the call as it read before'; 0 by the template 'total and deterministic' (their statements: YtooijgcildbnlaaGreatTotals.lean).
  GIVEN WITH THE SEED: the statements are not yours to turn. If you find one false, say at which input.
  Laid BY PROGRAM, IN A SANDBOX (cutbox-rows.mjs): the forced cells as the released guide's own fill.sh prints them over the translation e870774a5afa8127… (all of the seat's roots in one cut). By AI agents, Wed Nov 11 2026. No macro, syntax, notation, axiom, sorry.
-/
import Derived.Test.YtooijgcildbnlaaGreatChecked
import GoSem.Claim
import GoSem.ClaimJoined
import GoSem.ClaimMapViews
import Derived.JoinedTies
import Derived.KernelRfl
namespace Go.Proofs.YtooijgcildbnlaaGreat
/- THE CELL 'sum', in the pinned program and in every row, IS THE sha256 OF THE DUMP (.gsa) THAT YtooijgcildbnlaaGreatProg.lean LOADS. Nothing in Lean hashes anything: it is a label: what it is worth is what the hold of that sum in a sandbox is worth. -/
noncomputable def Tryz.pinned : Pinned := { name := "ytooijgcildbnlaagreat", sum := "e870774a5afa81273a4412a0fbbae5965dd35ee57bca053e8f76aab2d529d414", checked := Tryz.checked }
namespace Rows
def none {H : Type} : Left H := { results := [], args := [] }

/-- 'rootcellarlaw13.ListCalls': WHATEVER THE INPUT: true; the input reads as it did. -/
def listCallsSpec : ChangeSpec := { name := "listCalls", fn := fun _ => fun
  | [d1, d2, d3] => { results := [.lit (.bool true)], args := [d1, d2, d3] }
  | _ => none }
def listCallsRow : OpenClaim := { program := "ytooijgcildbnlaagreat", sum := "e870774a5afa81273a4412a0fbbae5965dd35ee57bca053e8f76aab2d529d414", func := "rootcellar/rootcellarlaw13.ListCalls", spec := "listCalls", inPlace := ["internal/bytealg.abigen_runtime_cmpstring"], unfollowed := true, recurses := true, plainKeys := false, apart := false }
def ListCallsSaid : Prop := listCallsRow.holds Tryz.pinned (OpenSpec.ofChange listCallsSpec)

/-- ITS FALSE NEIGHBOUR: 'it returns false'. Refute it at one input. -/
def listCallsWrong : ChangeSpec := { name := "listCalls", fn := fun _ => fun
  | [d1, d2, d3] => { results := [.lit (.bool false)], args := [d1, d2, d3] }
  | _ => none }
def ListCallsWrongFalsely : Prop := listCallsRow.holds Tryz.pinned (OpenSpec.ofChange listCallsWrong)

/-- 'rootcellarlaw12.AuditHands': WHATEVER THE INPUT: true; the input reads as it did. -/
def auditHandsSpec : ChangeSpec := { name := "auditHands", fn := fun _ => fun
  | [d1, d2, d3, d4] => { results := [.lit (.bool true)], args := [d1, d2, d3, d4] }
  | _ => none }
def auditHandsRow : OpenClaim := { program := "ytooijgcildbnlaagreat", sum := "e870774a5afa81273a4412a0fbbae5965dd35ee57bca053e8f76aab2d529d414", func := "rootcellar/rootcellarlaw12.AuditHands", spec := "auditHands", inPlace := ["internal/bytealg.abigen_runtime_cmpstring"], unfollowed := true, recurses := true, plainKeys := false, apart := false }
def AuditHandsSaid : Prop := auditHandsRow.holds Tryz.pinned (OpenSpec.ofChange auditHandsSpec)

/-- ITS FALSE NEIGHBOUR: 'it returns false'. Refute it at one input. -/
def auditHandsWrong : ChangeSpec := { name := "auditHands", fn := fun _ => fun
  | [d1, d2, d3, d4] => { results := [.lit (.bool false)], args := [d1, d2, d3, d4] }
  | _ => none }
def AuditHandsWrongFalsely : Prop := auditHandsRow.holds Tryz.pinned (OpenSpec.ofChange auditHandsWrong)

/-- 'rootcellarlaw15.DictBack': WHATEVER THE INPUT: true; the input reads as it did. -/
def dictBackSpec : ChangeSpec := { name := "dictBack", fn := fun _ => fun
  | [d1, d2, d3, d4] => { results := [.lit (.bool true)], args := [d1, d2, d3, d4] }
  | _ => none }
def dictBackRow : OpenClaim := { program := "ytooijgcildbnlaagreat", sum := "e870774a5afa81273a4412a0fbbae5965dd35ee57bca053e8f76aab2d529d414", func := "rootcellar/rootcellarlaw15.DictBack", spec := "dictBack", inPlace := ["internal/bytealg.abigen_runtime_cmpstring"], unfollowed := true, recurses := true, plainKeys := false, apart := false }
def DictBackSaid : Prop := dictBackRow.holds Tryz.pinned (OpenSpec.ofChange dictBackSpec)

/-- ITS FALSE NEIGHBOUR: 'it returns false'. Refute it at one input. -/
def dictBackWrong : ChangeSpec := { name := "dictBack", fn := fun _ => fun
  | [d1, d2, d3, d4] => { results := [.lit (.bool false)], args := [d1, d2, d3, d4] }
  | _ => none }
def DictBackWrongFalsely : Prop := dictBackRow.holds Tryz.pinned (OpenSpec.ofChange dictBackWrong)

/-- 'rootcellarlaw15.DictNil': WHATEVER THE INPUT: true; the input reads as it did. -/
def dictNilSpec : ChangeSpec := { name := "dictNil", fn := fun _ => fun
  | [d] => { results := [.lit (.bool true)], args := [d] }
  | _ => none }
def dictNilRow : OpenClaim := { program := "ytooijgcildbnlaagreat", sum := "e870774a5afa81273a4412a0fbbae5965dd35ee57bca053e8f76aab2d529d414", func := "rootcellar/rootcellarlaw15.DictNil", spec := "dictNil", inPlace := ["internal/bytealg.abigen_runtime_cmpstring"], unfollowed := true, recurses := true, plainKeys := false, apart := false }
def DictNilSaid : Prop := dictNilRow.holds Tryz.pinned (OpenSpec.ofChange dictNilSpec)

/-- ITS FALSE NEIGHBOUR: 'it returns false'. Refute it at one input. -/
def dictNilWrong : ChangeSpec := { name := "dictNil", fn := fun _ => fun
  | [d] => { results := [.lit (.bool false)], args := [d] }
  | _ => none }
def DictNilWrongFalsely : Prop := dictNilRow.holds Tryz.pinned (OpenSpec.ofChange dictNilWrong)

/-- 'rootcellarlaw15.DictScript': WHATEVER THE INPUT: true; the input reads as it did. -/
def dictScriptSpec : ChangeSpec := { name := "dictScript", fn := fun _ => fun
  | [d1, d2] => { results := [.lit (.bool true)], args := [d1, d2] }
  | _ => none }
def dictScriptRow : OpenClaim := { program := "ytooijgcildbnlaagreat", sum := "e870774a5afa81273a4412a0fbbae5965dd35ee57bca053e8f76aab2d529d414", func := "rootcellar/rootcellarlaw15.DictScript", spec := "dictScript", inPlace := ["internal/bytealg.abigen_runtime_cmpstring"], unfollowed := true, recurses := true, plainKeys := false, apart := false }
def DictScriptSaid : Prop := dictScriptRow.holds Tryz.pinned (OpenSpec.ofChange dictScriptSpec)

/-- ITS FALSE NEIGHBOUR: 'it returns false'. Refute it at one input. -/
def dictScriptWrong : ChangeSpec := { name := "dictScript", fn := fun _ => fun
  | [d1, d2] => { results := [.lit (.bool false)], args := [d1, d2] }
  | _ => none }
def DictScriptWrongFalsely : Prop := dictScriptRow.holds Tryz.pinned (OpenSpec.ofChange dictScriptWrong)

/-- 'rootcellarlaw16.ProofHolds': WHATEVER THE INPUT: true; the input reads as it did. -/
def proofHoldsSpec : ChangeSpec := { name := "proofHolds", fn := fun _ => fun
  | [d1, d2] => { results := [.lit (.bool true)], args := [d1, d2] }
  | _ => none }
def proofHoldsRow : OpenClaim := { program := "ytooijgcildbnlaagreat", sum := "e870774a5afa81273a4412a0fbbae5965dd35ee57bca053e8f76aab2d529d414", func := "rootcellar/rootcellarlaw16.ProofHolds", spec := "proofHolds", inPlace := ["internal/bytealg.abigen_runtime_cmpstring"], unfollowed := true, recurses := true, plainKeys := false, apart := false }
def ProofHoldsSaid : Prop := proofHoldsRow.holds Tryz.pinned (OpenSpec.ofChange proofHoldsSpec)

/-- ITS FALSE NEIGHBOUR: 'it returns false'. Refute it at one input. -/
def proofHoldsWrong : ChangeSpec := { name := "proofHolds", fn := fun _ => fun
  | [d1, d2] => { results := [.lit (.bool false)], args := [d1, d2] }
  | _ => none }
def ProofHoldsWrongFalsely : Prop := proofHoldsRow.holds Tryz.pinned (OpenSpec.ofChange proofHoldsWrong)

/-- 'rootcellarlaw15.DictSound': WHATEVER THE INPUT: true; the input reads as it did. -/
def dictSoundSpec : ChangeSpec := { name := "dictSound", fn := fun _ => fun
  | [d1, d2] => { results := [.lit (.bool true)], args := [d1, d2] }
  | _ => none }
def dictSoundRow : OpenClaim := { program := "ytooijgcildbnlaagreat", sum := "e870774a5afa81273a4412a0fbbae5965dd35ee57bca053e8f76aab2d529d414", func := "rootcellar/rootcellarlaw15.DictSound", spec := "dictSound", inPlace := ["internal/bytealg.abigen_runtime_cmpstring"], unfollowed := true, recurses := true, plainKeys := false, apart := false }
def DictSoundSaid : Prop := dictSoundRow.holds Tryz.pinned (OpenSpec.ofChange dictSoundSpec)

/-- ITS FALSE NEIGHBOUR: 'it returns false'. Refute it at one input. -/
def dictSoundWrong : ChangeSpec := { name := "dictSound", fn := fun _ => fun
  | [d1, d2] => { results := [.lit (.bool false)], args := [d1, d2] }
  | _ => none }
def DictSoundWrongFalsely : Prop := dictSoundRow.holds Tryz.pinned (OpenSpec.ofChange dictSoundWrong)

/- THE SECOND FORM. 'bulk': how many values and letters a reading holds, each counted each time it is reached (what is shared counts as often as it is met; a slice's spare places count too). A statement '..UptoSaid' is the law's where the arguments, and the package variables that the reading takes, are together of bulk at most 1048576: NARROWER than '..Said'. Prove '..Said' where nothing that the law and all that it calls make is longer than what came in: it says more and counts as full. Else prove '..UptoSaid'. A law counts once. -/
mutual
def uptoBulk {H : Type} : DataW H → Nat
  | .lit (.string bytes) => bytes.length + 1
  | .lit _ => 1
  | .nil => 1
  | .ptr d => uptoBulk d + 1
  | .slice elems spare => uptoBulkAll elems + uptoBulkAll spare + 1
  | .agg parts => uptoBulkAll parts + 1
  | .iface _ d => uptoBulk d + 1
  | .map entries => uptoBulkEntries entries + 1
  | .held _ => 1
def uptoBulkAll {H : Type} : List (DataW H) → Nat
  | [] => 0
  | d :: r => uptoBulk d + uptoBulkAll r
def uptoBulkEntries {H : Type} : List (Lit × DataW H) → Nat
  | [] => 0
  | x :: r => uptoBulkEntry x + uptoBulkEntries r
def uptoBulkEntry {H : Type} : Lit × DataW H → Nat
  | (.string bytes, d) => bytes.length + uptoBulk d + 1
  | (_, d) => uptoBulk d + 1
 end
def uptoSmall : (H : Type) → List (DataW H) → Bool := fun _ ds => decide (uptoBulkAll ds ≤ 1048576)
def OpenSpec.upto (s : _root_.Go.ChangeSpec) : _root_.Go.OpenSpec := { _root_.Go.OpenSpec.ofChange s with cond := some uptoSmall }

/-- 'rootcellarlaw13.ListCalls', WHERE WHAT IT READS IS OF BULK AT MOST 1048576: true; the input reads as it did. -/
def listCallsUptoRow : OpenClaim := { program := "ytooijgcildbnlaagreat", sum := "e870774a5afa81273a4412a0fbbae5965dd35ee57bca053e8f76aab2d529d414", func := "rootcellar/rootcellarlaw13.ListCalls", spec := "listCalls", inPlace := ["internal/bytealg.abigen_runtime_cmpstring"], unfollowed := true, recurses := true, plainKeys := false, apart := false, narrowed := true }
def ListCallsUptoSaid : Prop := listCallsUptoRow.holds Tryz.pinned (OpenSpec.upto listCallsSpec)

/-- 'rootcellarlaw12.AuditHands', WHERE WHAT IT READS IS OF BULK AT MOST 1048576: true; the input reads as it did. -/
def auditHandsUptoRow : OpenClaim := { program := "ytooijgcildbnlaagreat", sum := "e870774a5afa81273a4412a0fbbae5965dd35ee57bca053e8f76aab2d529d414", func := "rootcellar/rootcellarlaw12.AuditHands", spec := "auditHands", inPlace := ["internal/bytealg.abigen_runtime_cmpstring"], unfollowed := true, recurses := true, plainKeys := false, apart := false, narrowed := true }
def AuditHandsUptoSaid : Prop := auditHandsUptoRow.holds Tryz.pinned (OpenSpec.upto auditHandsSpec)

/-- 'rootcellarlaw15.DictBack', WHERE WHAT IT READS IS OF BULK AT MOST 1048576: true; the input reads as it did. -/
def dictBackUptoRow : OpenClaim := { program := "ytooijgcildbnlaagreat", sum := "e870774a5afa81273a4412a0fbbae5965dd35ee57bca053e8f76aab2d529d414", func := "rootcellar/rootcellarlaw15.DictBack", spec := "dictBack", inPlace := ["internal/bytealg.abigen_runtime_cmpstring"], unfollowed := true, recurses := true, plainKeys := false, apart := false, narrowed := true }
def DictBackUptoSaid : Prop := dictBackUptoRow.holds Tryz.pinned (OpenSpec.upto dictBackSpec)

/-- 'rootcellarlaw15.DictNil', WHERE WHAT IT READS IS OF BULK AT MOST 1048576: true; the input reads as it did. -/
def dictNilUptoRow : OpenClaim := { program := "ytooijgcildbnlaagreat", sum := "e870774a5afa81273a4412a0fbbae5965dd35ee57bca053e8f76aab2d529d414", func := "rootcellar/rootcellarlaw15.DictNil", spec := "dictNil", inPlace := ["internal/bytealg.abigen_runtime_cmpstring"], unfollowed := true, recurses := true, plainKeys := false, apart := false, narrowed := true }
def DictNilUptoSaid : Prop := dictNilUptoRow.holds Tryz.pinned (OpenSpec.upto dictNilSpec)

/-- 'rootcellarlaw15.DictScript', WHERE WHAT IT READS IS OF BULK AT MOST 1048576: true; the input reads as it did. -/
def dictScriptUptoRow : OpenClaim := { program := "ytooijgcildbnlaagreat", sum := "e870774a5afa81273a4412a0fbbae5965dd35ee57bca053e8f76aab2d529d414", func := "rootcellar/rootcellarlaw15.DictScript", spec := "dictScript", inPlace := ["internal/bytealg.abigen_runtime_cmpstring"], unfollowed := true, recurses := true, plainKeys := false, apart := false, narrowed := true }
def DictScriptUptoSaid : Prop := dictScriptUptoRow.holds Tryz.pinned (OpenSpec.upto dictScriptSpec)

/-- 'rootcellarlaw16.ProofHolds', WHERE WHAT IT READS IS OF BULK AT MOST 1048576: true; the input reads as it did. -/
def proofHoldsUptoRow : OpenClaim := { program := "ytooijgcildbnlaagreat", sum := "e870774a5afa81273a4412a0fbbae5965dd35ee57bca053e8f76aab2d529d414", func := "rootcellar/rootcellarlaw16.ProofHolds", spec := "proofHolds", inPlace := ["internal/bytealg.abigen_runtime_cmpstring"], unfollowed := true, recurses := true, plainKeys := false, apart := false, narrowed := true }
def ProofHoldsUptoSaid : Prop := proofHoldsUptoRow.holds Tryz.pinned (OpenSpec.upto proofHoldsSpec)

/-- 'rootcellarlaw15.DictSound', WHERE WHAT IT READS IS OF BULK AT MOST 1048576: true; the input reads as it did. -/
def dictSoundUptoRow : OpenClaim := { program := "ytooijgcildbnlaagreat", sum := "e870774a5afa81273a4412a0fbbae5965dd35ee57bca053e8f76aab2d529d414", func := "rootcellar/rootcellarlaw15.DictSound", spec := "dictSound", inPlace := ["internal/bytealg.abigen_runtime_cmpstring"], unfollowed := true, recurses := true, plainKeys := false, apart := false, narrowed := true }
def DictSoundUptoSaid : Prop := dictSoundUptoRow.holds Tryz.pinned (OpenSpec.upto dictSoundSpec)

end Rows
end Go.Proofs.YtooijgcildbnlaaGreat
