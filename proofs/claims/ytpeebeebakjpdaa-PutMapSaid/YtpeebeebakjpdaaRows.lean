/-
  No cell of these rows narrows 'for every input' (looked for: loops, veiled, ifaces, maps, wideKeys, modest, calm, conditions, laid).
  DERIVED. THE GIVEN ROWS OF THIS SEAT. 7 by the template 'for every input the law returns true; each argument reads behind the call as it read before'; 0 by the template 'total and deterministic' (their statements: YtpeebeebakjpdaaTotals.lean).
  GIVEN WITH THE SEED: the statements are not yours to turn. If you find one false, say at which input.
  Laid BY PROGRAM, IN A SANDBOX (cutbox-rows.mjs): the forced cells as the released guide's own fill.sh prints them over the translation c1e7ede435241d59… (all of the seat's roots in one cut). By AI agents, Wed Nov 11 2026. No macro, syntax, notation, axiom, sorry.
-/
import Derived.Test.YtpeebeebakjpdaaChecked
import GoSem.Claim
import GoSem.ClaimJoined
import GoSem.ClaimMapViews
import Derived.JoinedTies
import Derived.KernelRfl
namespace Go.Proofs.Ytpeebeebakjpdaa
/- THE CELL 'sum', in the pinned program and in every row, IS THE sha256 OF THE DUMP (.gsa) THAT YtpeebeebakjpdaaProg.lean LOADS. Nothing in Lean hashes anything: it is a label: what it is worth is what the hold of that sum in a sandbox is worth. -/
noncomputable def Try.pinned : Pinned := { name := "ytpeebeebakjpdaa", sum := "c1e7ede435241d59a13e43f75d143f5bc939e73f25b8bc04f5c2727b5b67a98c", checked := Try.checked }
namespace Rows
def none {H : Type} : Left H := { results := [], args := [] }

/-- 'rootcellarlaw09.PutTurns': WHATEVER THE INPUT: true; the input reads as it did. -/
def putTurnsSpec : ChangeSpec := { name := "putTurns", fn := fun _ => fun
  | [d1, d2] => { results := [.lit (.bool true)], args := [d1, d2] }
  | _ => none }
def putTurnsRow : OpenClaim := { program := "ytpeebeebakjpdaa", sum := "c1e7ede435241d59a13e43f75d143f5bc939e73f25b8bc04f5c2727b5b67a98c", func := "rootcellar/rootcellarlaw09.PutTurns", spec := "putTurns", plainKeys := false, apart := false }
def PutTurnsSaid : Prop := putTurnsRow.holds Try.pinned (OpenSpec.ofChange putTurnsSpec)

/-- ITS FALSE NEIGHBOUR: 'it returns false'. Refute it at one input. -/
def putTurnsWrong : ChangeSpec := { name := "putTurns", fn := fun _ => fun
  | [d1, d2] => { results := [.lit (.bool false)], args := [d1, d2] }
  | _ => none }
def PutTurnsWrongFalsely : Prop := putTurnsRow.holds Try.pinned (OpenSpec.ofChange putTurnsWrong)

/-- 'rootcellarlaw09.PutRoom': WHATEVER THE INPUT: true; the input reads as it did. -/
def putRoomSpec : ChangeSpec := { name := "putRoom", fn := fun _ => fun
  | [d1, d2] => { results := [.lit (.bool true)], args := [d1, d2] }
  | _ => none }
def putRoomRow : OpenClaim := { program := "ytpeebeebakjpdaa", sum := "c1e7ede435241d59a13e43f75d143f5bc939e73f25b8bc04f5c2727b5b67a98c", func := "rootcellar/rootcellarlaw09.PutRoom", spec := "putRoom", plainKeys := false, apart := false }
def PutRoomSaid : Prop := putRoomRow.holds Try.pinned (OpenSpec.ofChange putRoomSpec)

/-- ITS FALSE NEIGHBOUR: 'it returns false'. Refute it at one input. -/
def putRoomWrong : ChangeSpec := { name := "putRoom", fn := fun _ => fun
  | [d1, d2] => { results := [.lit (.bool false)], args := [d1, d2] }
  | _ => none }
def PutRoomWrongFalsely : Prop := putRoomRow.holds Try.pinned (OpenSpec.ofChange putRoomWrong)

/-- 'rootcellarlaw09.PutNone': WHATEVER THE INPUT: true; the input reads as it did. -/
def putNoneSpec : ChangeSpec := { name := "putNone", fn := fun _ => fun
  | [d] => { results := [.lit (.bool true)], args := [d] }
  | _ => none }
def putNoneRow : OpenClaim := { program := "ytpeebeebakjpdaa", sum := "c1e7ede435241d59a13e43f75d143f5bc939e73f25b8bc04f5c2727b5b67a98c", func := "rootcellar/rootcellarlaw09.PutNone", spec := "putNone", plainKeys := false, apart := false }
def PutNoneSaid : Prop := putNoneRow.holds Try.pinned (OpenSpec.ofChange putNoneSpec)

/-- ITS FALSE NEIGHBOUR: 'it returns false'. Refute it at one input. -/
def putNoneWrong : ChangeSpec := { name := "putNone", fn := fun _ => fun
  | [d] => { results := [.lit (.bool false)], args := [d] }
  | _ => none }
def PutNoneWrongFalsely : Prop := putNoneRow.holds Try.pinned (OpenSpec.ofChange putNoneWrong)

/-- 'rootcellarlaw09.PutKnown': WHATEVER THE INPUT: true; the input reads as it did. -/
def putKnownSpec : ChangeSpec := { name := "putKnown", fn := fun _ => fun
  | [] => { results := [.lit (.bool true)], args := [] }
  | _ => none }
def putKnownRow : OpenClaim := { program := "ytpeebeebakjpdaa", sum := "c1e7ede435241d59a13e43f75d143f5bc939e73f25b8bc04f5c2727b5b67a98c", func := "rootcellar/rootcellarlaw09.PutKnown", spec := "putKnown", plainKeys := false, apart := false }
def PutKnownSaid : Prop := putKnownRow.holds Try.pinned (OpenSpec.ofChange putKnownSpec)

/-- ITS FALSE NEIGHBOUR: 'it returns false'. Refute it at one input. -/
def putKnownWrong : ChangeSpec := { name := "putKnown", fn := fun _ => fun
  | [] => { results := [.lit (.bool false)], args := [] }
  | _ => none }
def PutKnownWrongFalsely : Prop := putKnownRow.holds Try.pinned (OpenSpec.ofChange putKnownWrong)

/-- 'rootcellarlaw10.DropNone': WHATEVER THE INPUT: true; the input reads as it did. -/
def dropNoneSpec : ChangeSpec := { name := "dropNone", fn := fun _ => fun
  | [d1, d2] => { results := [.lit (.bool true)], args := [d1, d2] }
  | _ => none }
def dropNoneRow : OpenClaim := { program := "ytpeebeebakjpdaa", sum := "c1e7ede435241d59a13e43f75d143f5bc939e73f25b8bc04f5c2727b5b67a98c", func := "rootcellar/rootcellarlaw10.DropNone", spec := "dropNone", plainKeys := false, apart := false }
def DropNoneSaid : Prop := dropNoneRow.holds Try.pinned (OpenSpec.ofChange dropNoneSpec)

/-- ITS FALSE NEIGHBOUR: 'it returns false'. Refute it at one input. -/
def dropNoneWrong : ChangeSpec := { name := "dropNone", fn := fun _ => fun
  | [d1, d2] => { results := [.lit (.bool false)], args := [d1, d2] }
  | _ => none }
def DropNoneWrongFalsely : Prop := dropNoneRow.holds Try.pinned (OpenSpec.ofChange dropNoneWrong)

/-- 'rootcellarlaw10.DropKnown': WHATEVER THE INPUT: true; the input reads as it did. -/
def dropKnownSpec : ChangeSpec := { name := "dropKnown", fn := fun _ => fun
  | [] => { results := [.lit (.bool true)], args := [] }
  | _ => none }
def dropKnownRow : OpenClaim := { program := "ytpeebeebakjpdaa", sum := "c1e7ede435241d59a13e43f75d143f5bc939e73f25b8bc04f5c2727b5b67a98c", func := "rootcellar/rootcellarlaw10.DropKnown", spec := "dropKnown", plainKeys := false, apart := false }
def DropKnownSaid : Prop := dropKnownRow.holds Try.pinned (OpenSpec.ofChange dropKnownSpec)

/-- ITS FALSE NEIGHBOUR: 'it returns false'. Refute it at one input. -/
def dropKnownWrong : ChangeSpec := { name := "dropKnown", fn := fun _ => fun
  | [] => { results := [.lit (.bool false)], args := [] }
  | _ => none }
def DropKnownWrongFalsely : Prop := dropKnownRow.holds Try.pinned (OpenSpec.ofChange dropKnownWrong)

/-- 'rootcellarlaw09.PutMap': WHATEVER THE INPUT: true; the input reads as it did. -/
def putMapSpec : ChangeSpec := { name := "putMap", fn := fun _ => fun
  | [d1, d2] => { results := [.lit (.bool true)], args := [d1, d2] }
  | _ => none }
def putMapRow : OpenClaim := { program := "ytpeebeebakjpdaa", sum := "c1e7ede435241d59a13e43f75d143f5bc939e73f25b8bc04f5c2727b5b67a98c", func := "rootcellar/rootcellarlaw09.PutMap", spec := "putMap", inPlace := ["internal/bytealg.abigen_runtime_cmpstring"], unfollowed := true, recurses := true, plainKeys := false, apart := false }
def PutMapSaid : Prop := putMapRow.holds Try.pinned (OpenSpec.ofChange putMapSpec)

/-- ITS FALSE NEIGHBOUR: 'it returns false'. Refute it at one input. -/
def putMapWrong : ChangeSpec := { name := "putMap", fn := fun _ => fun
  | [d1, d2] => { results := [.lit (.bool false)], args := [d1, d2] }
  | _ => none }
def PutMapWrongFalsely : Prop := putMapRow.holds Try.pinned (OpenSpec.ofChange putMapWrong)

/- THE SECOND FORM. 'bulk': how many values and letters a reading holds, each counted each time it is reached (what is shared counts as often as it is met; a slice's spare places count too). A statement '..UptoSaid' is the law's where the arguments, and the package variables that the reading takes, are together of bulk at most 1048576: NARROWER than '..Said'. Prove '..Said' where nothing that the law and all that it calls make is longer than what came in: it says more and counts as full. Else prove '..UptoSaid'. A law counts once. -/
mutual
def uptoBulk {H : Type} : DataW H → Nat
  | .lit (.string bytes) => bytes.length + 1
  | .lit _ => 1
  | .nil => 1
  | .ptr d => uptoBulk d + 1
  | .slice elems spare => uptoBulkAll elems + uptoBulkAll spare + 1
  | .agg parts => uptoBulkAll parts + 1
  | .iface _ d => uptoBulk d + 1
  | .map entries => uptoBulkEntries entries + 1
  | .held _ => 1
def uptoBulkAll {H : Type} : List (DataW H) → Nat
  | [] => 0
  | d :: r => uptoBulk d + uptoBulkAll r
def uptoBulkEntries {H : Type} : List (Lit × DataW H) → Nat
  | [] => 0
  | x :: r => uptoBulkEntry x + uptoBulkEntries r
def uptoBulkEntry {H : Type} : Lit × DataW H → Nat
  | (.string bytes, d) => bytes.length + uptoBulk d + 1
  | (_, d) => uptoBulk d + 1
 end
def uptoSmall : (H : Type) → List (DataW H) → Bool := fun _ ds => decide (uptoBulkAll ds ≤ 1048576)
def OpenSpec.upto (s : _root_.Go.ChangeSpec) : _root_.Go.OpenSpec := { _root_.Go.OpenSpec.ofChange s with cond := some uptoSmall }

/-- 'rootcellarlaw09.PutTurns', WHERE WHAT IT READS IS OF BULK AT MOST 1048576: true; the input reads as it did. -/
def putTurnsUptoRow : OpenClaim := { program := "ytpeebeebakjpdaa", sum := "c1e7ede435241d59a13e43f75d143f5bc939e73f25b8bc04f5c2727b5b67a98c", func := "rootcellar/rootcellarlaw09.PutTurns", spec := "putTurns", plainKeys := false, apart := false, narrowed := true }
def PutTurnsUptoSaid : Prop := putTurnsUptoRow.holds Try.pinned (OpenSpec.upto putTurnsSpec)

/-- 'rootcellarlaw09.PutRoom', WHERE WHAT IT READS IS OF BULK AT MOST 1048576: true; the input reads as it did. -/
def putRoomUptoRow : OpenClaim := { program := "ytpeebeebakjpdaa", sum := "c1e7ede435241d59a13e43f75d143f5bc939e73f25b8bc04f5c2727b5b67a98c", func := "rootcellar/rootcellarlaw09.PutRoom", spec := "putRoom", plainKeys := false, apart := false, narrowed := true }
def PutRoomUptoSaid : Prop := putRoomUptoRow.holds Try.pinned (OpenSpec.upto putRoomSpec)

/-- 'rootcellarlaw09.PutNone', WHERE WHAT IT READS IS OF BULK AT MOST 1048576: true; the input reads as it did. -/
def putNoneUptoRow : OpenClaim := { program := "ytpeebeebakjpdaa", sum := "c1e7ede435241d59a13e43f75d143f5bc939e73f25b8bc04f5c2727b5b67a98c", func := "rootcellar/rootcellarlaw09.PutNone", spec := "putNone", plainKeys := false, apart := false, narrowed := true }
def PutNoneUptoSaid : Prop := putNoneUptoRow.holds Try.pinned (OpenSpec.upto putNoneSpec)

/-- 'rootcellarlaw09.PutKnown', WHERE WHAT IT READS IS OF BULK AT MOST 1048576: true; the input reads as it did. -/
def putKnownUptoRow : OpenClaim := { program := "ytpeebeebakjpdaa", sum := "c1e7ede435241d59a13e43f75d143f5bc939e73f25b8bc04f5c2727b5b67a98c", func := "rootcellar/rootcellarlaw09.PutKnown", spec := "putKnown", plainKeys := false, apart := false, narrowed := true }
def PutKnownUptoSaid : Prop := putKnownUptoRow.holds Try.pinned (OpenSpec.upto putKnownSpec)

/-- 'rootcellarlaw10.DropNone', WHERE WHAT IT READS IS OF BULK AT MOST 1048576: true; the input reads as it did. -/
def dropNoneUptoRow : OpenClaim := { program := "ytpeebeebakjpdaa", sum := "c1e7ede435241d59a13e43f75d143f5bc939e73f25b8bc04f5c2727b5b67a98c", func := "rootcellar/rootcellarlaw10.DropNone", spec := "dropNone", plainKeys := false, apart := false, narrowed := true }
def DropNoneUptoSaid : Prop := dropNoneUptoRow.holds Try.pinned (OpenSpec.upto dropNoneSpec)

/-- 'rootcellarlaw10.DropKnown', WHERE WHAT IT READS IS OF BULK AT MOST 1048576: true; the input reads as it did. -/
def dropKnownUptoRow : OpenClaim := { program := "ytpeebeebakjpdaa", sum := "c1e7ede435241d59a13e43f75d143f5bc939e73f25b8bc04f5c2727b5b67a98c", func := "rootcellar/rootcellarlaw10.DropKnown", spec := "dropKnown", plainKeys := false, apart := false, narrowed := true }
def DropKnownUptoSaid : Prop := dropKnownUptoRow.holds Try.pinned (OpenSpec.upto dropKnownSpec)

/-- 'rootcellarlaw09.PutMap', WHERE WHAT IT READS IS OF BULK AT MOST 1048576: true; the input reads as it did. -/
def putMapUptoRow : OpenClaim := { program := "ytpeebeebakjpdaa", sum := "c1e7ede435241d59a13e43f75d143f5bc939e73f25b8bc04f5c2727b5b67a98c", func := "rootcellar/rootcellarlaw09.PutMap", spec := "putMap", inPlace := ["internal/bytealg.abigen_runtime_cmpstring"], unfollowed := true, recurses := true, plainKeys := false, apart := false, narrowed := true }
def PutMapUptoSaid : Prop := putMapUptoRow.holds Try.pinned (OpenSpec.upto putMapSpec)

end Rows
end Go.Proofs.Ytpeebeebakjpdaa
