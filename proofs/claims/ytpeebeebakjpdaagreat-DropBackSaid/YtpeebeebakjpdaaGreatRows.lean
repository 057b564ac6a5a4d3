/-
  No cell of these rows narrows 'for every input' (looked for: loops, veiled, ifaces, maps, wideKeys, modest, calm, conditions, laid).
  DERIVED. THE GIVEN ROWS OF THIS SEAT. 6 by the template 'for every input the law returns true; each argument reads behind the call as it read before'; 0 by the template 'total and deterministic' (their statements: YtpeebeebakjpdaaGreatTotals.lean).
  GIVEN WITH THE SEED: the statements are not yours to turn. If you find one false, say at which input.
  Laid BY PROGRAM, IN A SANDBOX (cutbox-rows.mjs): the forced cells as the released guide's own fill.sh prints them over the translation 1646f632bc7d6f90… (all of the seat's roots in one cut). By AI agents, Wed Nov 11 2026. No macro, syntax, notation, axiom, sorry.
-/
import Derived.Test.YtpeebeebakjpdaaGreatChecked
import GoSem.Claim
import GoSem.ClaimJoined
import GoSem.ClaimMapViews
import Derived.JoinedTies
import Derived.KernelRfl
namespace Go.Proofs.YtpeebeebakjpdaaGreat
/- THE CELL 'sum', in the pinned program and in every row, IS THE sha256 OF THE DUMP (.gsa) THAT YtpeebeebakjpdaaGreatProg.lean LOADS. Nothing in Lean hashes anything: it is a label: what it is worth is what the hold of that sum in a sandbox is worth. -/
noncomputable def Tryz.pinned : Pinned := { name := "ytpeebeebakjpdaagreat", sum := "1646f632bc7d6f905dc34f471502f821396c0b379a9f01b3f09f1f0c624f750f", checked := Tryz.checked }
namespace Rows
def none {H : Type} : Left H := { results := [], args := [] }

/-- 'rootcellarlaw09.PutScript': WHATEVER THE INPUT: true; the input reads as it did. -/
def putScriptSpec : ChangeSpec := { name := "putScript", fn := fun _ => fun
  | [d1, d2] => { results := [.lit (.bool true)], args := [d1, d2] }
  | _ => none }
def putScriptRow : OpenClaim := { program := "ytpeebeebakjpdaagreat", sum := "1646f632bc7d6f905dc34f471502f821396c0b379a9f01b3f09f1f0c624f750f", func := "rootcellar/rootcellarlaw09.PutScript", spec := "putScript", recurses := true, plainKeys := false, apart := false }
def PutScriptSaid : Prop := putScriptRow.holds Tryz.pinned (OpenSpec.ofChange putScriptSpec)

/-- ITS FALSE NEIGHBOUR: 'it returns false'. Refute it at one input. -/
def putScriptWrong : ChangeSpec := { name := "putScript", fn := fun _ => fun
  | [d1, d2] => { results := [.lit (.bool false)], args := [d1, d2] }
  | _ => none }
def PutScriptWrongFalsely : Prop := putScriptRow.holds Tryz.pinned (OpenSpec.ofChange putScriptWrong)

/-- 'rootcellarlaw09.PutOther': WHATEVER THE INPUT: true; the input reads as it did. -/
def putOtherSpec : ChangeSpec := { name := "putOther", fn := fun _ => fun
  | [d1, d2, d3] => { results := [.lit (.bool true)], args := [d1, d2, d3] }
  | _ => none }
def putOtherRow : OpenClaim := { program := "ytpeebeebakjpdaagreat", sum := "1646f632bc7d6f905dc34f471502f821396c0b379a9f01b3f09f1f0c624f750f", func := "rootcellar/rootcellarlaw09.PutOther", spec := "putOther", recurses := true, plainKeys := false, apart := false }
def PutOtherSaid : Prop := putOtherRow.holds Tryz.pinned (OpenSpec.ofChange putOtherSpec)

/-- ITS FALSE NEIGHBOUR: 'it returns false'. Refute it at one input. -/
def putOtherWrong : ChangeSpec := { name := "putOther", fn := fun _ => fun
  | [d1, d2, d3] => { results := [.lit (.bool false)], args := [d1, d2, d3] }
  | _ => none }
def PutOtherWrongFalsely : Prop := putOtherRow.holds Tryz.pinned (OpenSpec.ofChange putOtherWrong)

/-- 'rootcellarlaw10.DropScript': WHATEVER THE INPUT: true; the input reads as it did. -/
def dropScriptSpec : ChangeSpec := { name := "dropScript", fn := fun _ => fun
  | [d1, d2] => { results := [.lit (.bool true)], args := [d1, d2] }
  | _ => none }
def dropScriptRow : OpenClaim := { program := "ytpeebeebakjpdaagreat", sum := "1646f632bc7d6f905dc34f471502f821396c0b379a9f01b3f09f1f0c624f750f", func := "rootcellar/rootcellarlaw10.DropScript", spec := "dropScript", recurses := true, plainKeys := false, apart := false }
def DropScriptSaid : Prop := dropScriptRow.holds Tryz.pinned (OpenSpec.ofChange dropScriptSpec)

/-- ITS FALSE NEIGHBOUR: 'it returns false'. Refute it at one input. -/
def dropScriptWrong : ChangeSpec := { name := "dropScript", fn := fun _ => fun
  | [d1, d2] => { results := [.lit (.bool false)], args := [d1, d2] }
  | _ => none }
def DropScriptWrongFalsely : Prop := dropScriptRow.holds Tryz.pinned (OpenSpec.ofChange dropScriptWrong)

/-- 'rootcellarlaw10.DropOther': WHATEVER THE INPUT: true; the input reads as it did. -/
def dropOtherSpec : ChangeSpec := { name := "dropOther", fn := fun _ => fun
  | [d1, d2, d3, d4] => { results := [.lit (.bool true)], args := [d1, d2, d3, d4] }
  | _ => none }
def dropOtherRow : OpenClaim := { program := "ytpeebeebakjpdaagreat", sum := "1646f632bc7d6f905dc34f471502f821396c0b379a9f01b3f09f1f0c624f750f", func := "rootcellar/rootcellarlaw10.DropOther", spec := "dropOther", recurses := true, plainKeys := false, apart := false }
def DropOtherSaid : Prop := dropOtherRow.holds Tryz.pinned (OpenSpec.ofChange dropOtherSpec)

/-- ITS FALSE NEIGHBOUR: 'it returns false'. Refute it at one input. -/
def dropOtherWrong : ChangeSpec := { name := "dropOther", fn := fun _ => fun
  | [d1, d2, d3, d4] => { results := [.lit (.bool false)], args := [d1, d2, d3, d4] }
  | _ => none }
def DropOtherWrongFalsely : Prop := dropOtherRow.holds Tryz.pinned (OpenSpec.ofChange dropOtherWrong)

/-- 'rootcellarlaw10.DropBack': WHATEVER THE INPUT: true; the input reads as it did. -/
def dropBackSpec : ChangeSpec := { name := "dropBack", fn := fun _ => fun
  | [d1, d2, d3] => { results := [.lit (.bool true)], args := [d1, d2, d3] }
  | _ => none }
def dropBackRow : OpenClaim := { program := "ytpeebeebakjpdaagreat", sum := "1646f632bc7d6f905dc34f471502f821396c0b379a9f01b3f09f1f0c624f750f", func := "rootcellar/rootcellarlaw10.DropBack", spec := "dropBack", inPlace := ["internal/bytealg.abigen_runtime_cmpstring"], unfollowed := true, recurses := true, plainKeys := false, apart := false }
def DropBackSaid : Prop := dropBackRow.holds Tryz.pinned (OpenSpec.ofChange dropBackSpec)

/-- ITS FALSE NEIGHBOUR: 'it returns false'. Refute it at one input. -/
def dropBackWrong : ChangeSpec := { name := "dropBack", fn := fun _ => fun
  | [d1, d2, d3] => { results := [.lit (.bool false)], args := [d1, d2, d3] }
  | _ => none }
def DropBackWrongFalsely : Prop := dropBackRow.holds Tryz.pinned (OpenSpec.ofChange dropBackWrong)

/-- 'rootcellarlaw10.DropMap': WHATEVER THE INPUT: true; the input reads as it did. -/
def dropMapSpec : ChangeSpec := { name := "dropMap", fn := fun _ => fun
  | [d1, d2] => { results := [.lit (.bool true)], args := [d1, d2] }
  | _ => none }
def dropMapRow : OpenClaim := { program := "ytpeebeebakjpdaagreat", sum := "1646f632bc7d6f905dc34f471502f821396c0b379a9f01b3f09f1f0c624f750f", func := "rootcellar/rootcellarlaw10.DropMap", spec := "dropMap", inPlace := ["internal/bytealg.abigen_runtime_cmpstring"], unfollowed := true, recurses := true, plainKeys := false, apart := false }
def DropMapSaid : Prop := dropMapRow.holds Tryz.pinned (OpenSpec.ofChange dropMapSpec)

/-- ITS FALSE NEIGHBOUR: 'it returns false'. Refute it at one input. -/
def dropMapWrong : ChangeSpec := { name := "dropMap", fn := fun _ => fun
  | [d1, d2] => { results := [.lit (.bool false)], args := [d1, d2] }
  | _ => none }
def DropMapWrongFalsely : Prop := dropMapRow.holds Tryz.pinned (OpenSpec.ofChange dropMapWrong)

/- THE SECOND FORM. 'bulk': how many values and letters a reading holds, each counted each time it is reached (what is shared counts as often as it is met; a slice's spare places count too). A statement '..UptoSaid' is the law's where the arguments, and the package variables that the reading takes, are together of bulk at most 1048576: NARROWER than '..Said'. Prove '..Said' where nothing that the law and all that it calls make is longer than what came in: it says more and counts as full. Else prove '..UptoSaid'. A law counts once. -/
mutual
def uptoBulk {H : Type} : DataW H → Nat
  | .lit (.string bytes) => bytes.length + 1
  | .lit _ => 1
  | .nil => 1
  | .ptr d => uptoBulk d + 1
  | .slice elems spare => uptoBulkAll elems + uptoBulkAll spare + 1
  | .agg parts => uptoBulkAll parts + 1
  | .iface _ d => uptoBulk d + 1
  | .map entries => uptoBulkEntries entries + 1
  | .held _ => 1
def uptoBulkAll {H : Type} : List (DataW H) → Nat
  | [] => 0
  | d :: r => uptoBulk d + uptoBulkAll r
def uptoBulkEntries {H : Type} : List (Lit × DataW H) → Nat
  | [] => 0
  | x :: r => uptoBulkEntry x + uptoBulkEntries r
def uptoBulkEntry {H : Type} : Lit × DataW H → Nat
  | (.string bytes, d) => bytes.length + uptoBulk d + 1
  | (_, d) => uptoBulk d + 1
 end
def uptoSmall : (H : Type) → List (DataW H) → Bool := fun _ ds => decide (uptoBulkAll ds ≤ 1048576)
def OpenSpec.upto (s : _root_.Go.ChangeSpec) : _root_.Go.OpenSpec := { _root_.Go.OpenSpec.ofChange s with cond := some uptoSmall }

/-- 'rootcellarlaw09.PutScript', WHERE WHAT IT READS IS OF BULK AT MOST 1048576: true; the input reads as it did. -/
def putScriptUptoRow : OpenClaim := { program := "ytpeebeebakjpdaagreat", sum := "1646f632bc7d6f905dc34f471502f821396c0b379a9f01b3f09f1f0c624f750f", func := "rootcellar/rootcellarlaw09.PutScript", spec := "putScript", recurses := true, plainKeys := false, apart := false, narrowed := true }
def PutScriptUptoSaid : Prop := putScriptUptoRow.holds Tryz.pinned (OpenSpec.upto putScriptSpec)

/-- 'rootcellarlaw09.PutOther', WHERE WHAT IT READS IS OF BULK AT MOST 1048576: true; the input reads as it did. -/
def putOtherUptoRow : OpenClaim := { program := "ytpeebeebakjpdaagreat", sum := "1646f632bc7d6f905dc34f471502f821396c0b379a9f01b3f09f1f0c624f750f", func := "rootcellar/rootcellarlaw09.PutOther", spec := "putOther", recurses := true, plainKeys := false, apart := false, narrowed := true }
def PutOtherUptoSaid : Prop := putOtherUptoRow.holds Tryz.pinned (OpenSpec.upto putOtherSpec)

/-- 'rootcellarlaw10.DropScript', WHERE WHAT IT READS IS OF BULK AT MOST 1048576: true; the input reads as it did. -/
def dropScriptUptoRow : OpenClaim := { program := "ytpeebeebakjpdaagreat", sum := "1646f632bc7d6f905dc34f471502f821396c0b379a9f01b3f09f1f0c624f750f", func := "rootcellar/rootcellarlaw10.DropScript", spec := "dropScript", recurses := true, plainKeys := false, apart := false, narrowed := true }
def DropScriptUptoSaid : Prop := dropScriptUptoRow.holds Tryz.pinned (OpenSpec.upto dropScriptSpec)

/-- 'rootcellarlaw10.DropOther', WHERE WHAT IT READS IS OF BULK AT MOST 1048576: true; the input reads as it did. -/
def dropOtherUptoRow : OpenClaim := { program := "ytpeebeebakjpdaagreat", sum := "1646f632bc7d6f905dc34f471502f821396c0b379a9f01b3f09f1f0c624f750f", func := "rootcellar/rootcellarlaw10.DropOther", spec := "dropOther", recurses := true, plainKeys := false, apart := false, narrowed := true }
def DropOtherUptoSaid : Prop := dropOtherUptoRow.holds Tryz.pinned (OpenSpec.upto dropOtherSpec)

/-- 'rootcellarlaw10.DropBack', WHERE WHAT IT READS IS OF BULK AT MOST 1048576: true; the input reads as it did. -/
def dropBackUptoRow : OpenClaim := { program := "ytpeebeebakjpdaagreat", sum := "1646f632bc7d6f905dc34f471502f821396c0b379a9f01b3f09f1f0c624f750f", func := "rootcellar/rootcellarlaw10.DropBack", spec := "dropBack", inPlace := ["internal/bytealg.abigen_runtime_cmpstring"], unfollowed := true, recurses := true, plainKeys := false, apart := false, narrowed := true }
def DropBackUptoSaid : Prop := dropBackUptoRow.holds Tryz.pinned (OpenSpec.upto dropBackSpec)

/-- 'rootcellarlaw10.DropMap', WHERE WHAT IT READS IS OF BULK AT MOST 1048576: true; the input reads as it did. -/
def dropMapUptoRow : OpenClaim := { program := "ytpeebeebakjpdaagreat", sum := "1646f632bc7d6f905dc34f471502f821396c0b379a9f01b3f09f1f0c624f750f", func := "rootcellar/rootcellarlaw10.DropMap", spec := "dropMap", inPlace := ["internal/bytealg.abigen_runtime_cmpstring"], unfollowed := true, recurses := true, plainKeys := false, apart := false, narrowed := true }
def DropMapUptoSaid : Prop := dropMapUptoRow.holds Tryz.pinned (OpenSpec.upto dropMapSpec)

end Rows
end Go.Proofs.YtpeebeebakjpdaaGreat
