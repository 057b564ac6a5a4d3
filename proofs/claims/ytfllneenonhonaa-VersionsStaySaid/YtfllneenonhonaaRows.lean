/-
  No cell of these rows narrows 'for every input' (looked for: loops, veiled, ifaces, maps, wideKeys, modest, calm, conditions, laid).
  DERIVED. THE GIVEN ROWS OF THIS SEAT. 6 by the template 'for every input the law returns true; each argument reads behind the call as it read before'; 0 by the template 'total and deterministic' (their statements: YtfllneenonhonaaTotals.lean).
  GIVEN WITH THE SEED: the statements are not yours to turn. If you find one false, say at which input.
  Laid BY PROGRAM, IN A SANDBOX (cutbox-rows.mjs): the forced cells as the released guide's own fill.sh prints them over the translation 83ebb69f890fc5a4… (all of the seat's roots in one cut). By AI agents, Wed Nov 11 2026. No macro, syntax, notation, axiom, sorry.
-/
import Derived.Test.YtfllneenonhonaaChecked
import GoSem.Claim
import GoSem.ClaimJoined
import GoSem.ClaimMapViews
import Derived.JoinedTies
import Derived.KernelRfl
namespace Go.Proofs.Ytfllneenonhonaa
/- THE CELL 'sum', in the pinned program and in every row, IS THE sha256 OF THE DUMP (.gsa) THAT YtfllneenonhonaaProg.lean LOADS. Nothing in Lean hashes anything: it is a label: what it is worth is what the hold of that sum in a sandbox is worth. -/
noncomputable def Try.pinned : Pinned := { name := "ytfllneenonhonaa", sum := "83ebb69f890fc5a42e92897acf7026f3a62613fff499f76019f4286c436c39f5", checked := Try.checked }
namespace Rows
def none {H : Type} : Left H := { results := [], args := [] }

/-- 'rootcellarlaw13.ListNone': WHATEVER THE INPUT: true; the input reads as it did. -/
def listNoneSpec : ChangeSpec := { name := "listNone", fn := fun _ => fun
  | [d] => { results := [.lit (.bool true)], args := [d] }
  | _ => none }
def listNoneRow : OpenClaim := { program := "ytfllneenonhonaa", sum := "83ebb69f890fc5a42e92897acf7026f3a62613fff499f76019f4286c436c39f5", func := "rootcellar/rootcellarlaw13.ListNone", spec := "listNone", inPlace := ["internal/bytealg.abigen_runtime_cmpstring"], unfollowed := true, recurses := true, plainKeys := false, apart := false }
def ListNoneSaid : Prop := listNoneRow.holds Try.pinned (OpenSpec.ofChange listNoneSpec)

/-- ITS FALSE NEIGHBOUR: 'it returns false'. Refute it at one input. -/
def listNoneWrong : ChangeSpec := { name := "listNone", fn := fun _ => fun
  | [d] => { results := [.lit (.bool false)], args := [d] }
  | _ => none }
def ListNoneWrongFalsely : Prop := listNoneRow.holds Try.pinned (OpenSpec.ofChange listNoneWrong)

/-- 'rootcellarlaw13.ListKnown': WHATEVER THE INPUT: true; the input reads as it did. -/
def listKnownSpec : ChangeSpec := { name := "listKnown", fn := fun _ => fun
  | [] => { results := [.lit (.bool true)], args := [] }
  | _ => none }
def listKnownRow : OpenClaim := { program := "ytfllneenonhonaa", sum := "83ebb69f890fc5a42e92897acf7026f3a62613fff499f76019f4286c436c39f5", func := "rootcellar/rootcellarlaw13.ListKnown", spec := "listKnown", inPlace := ["internal/bytealg.abigen_runtime_cmpstring"], unfollowed := true, recurses := true, plainKeys := false, apart := false }
def ListKnownSaid : Prop := listKnownRow.holds Try.pinned (OpenSpec.ofChange listKnownSpec)

/-- ITS FALSE NEIGHBOUR: 'it returns false'. Refute it at one input. -/
def listKnownWrong : ChangeSpec := { name := "listKnown", fn := fun _ => fun
  | [] => { results := [.lit (.bool false)], args := [] }
  | _ => none }
def ListKnownWrongFalsely : Prop := listKnownRow.holds Try.pinned (OpenSpec.ofChange listKnownWrong)

/-- 'rootcellarlaw07.StoreTrees': WHATEVER THE INPUT: true; the input reads as it did. -/
def storeTreesSpec : ChangeSpec := { name := "storeTrees", fn := fun _ => fun
  | [d1, d2] => { results := [.lit (.bool true)], args := [d1, d2] }
  | _ => none }
def storeTreesRow : OpenClaim := { program := "ytfllneenonhonaa", sum := "83ebb69f890fc5a42e92897acf7026f3a62613fff499f76019f4286c436c39f5", func := "rootcellar/rootcellarlaw07.StoreTrees", spec := "storeTrees", inPlace := ["internal/bytealg.abigen_runtime_cmpstring"], unfollowed := true, recurses := true, plainKeys := false, apart := false }
def StoreTreesSaid : Prop := storeTreesRow.holds Try.pinned (OpenSpec.ofChange storeTreesSpec)

/-- ITS FALSE NEIGHBOUR: 'it returns false'. Refute it at one input. -/
def storeTreesWrong : ChangeSpec := { name := "storeTrees", fn := fun _ => fun
  | [d1, d2] => { results := [.lit (.bool false)], args := [d1, d2] }
  | _ => none }
def StoreTreesWrongFalsely : Prop := storeTreesRow.holds Try.pinned (OpenSpec.ofChange storeTreesWrong)

/-- 'rootcellarlaw14.VersionsNames': WHATEVER THE INPUT: true; the input reads as it did. -/
def versionsNamesSpec : ChangeSpec := { name := "versionsNames", fn := fun _ => fun
  | [d] => { results := [.lit (.bool true)], args := [d] }
  | _ => none }
def versionsNamesRow : OpenClaim := { program := "ytfllneenonhonaa", sum := "83ebb69f890fc5a42e92897acf7026f3a62613fff499f76019f4286c436c39f5", func := "rootcellar/rootcellarlaw14.VersionsNames", spec := "versionsNames", recurses := true, plainKeys := false, apart := false }
def VersionsNamesSaid : Prop := versionsNamesRow.holds Try.pinned (OpenSpec.ofChange versionsNamesSpec)

/-- ITS FALSE NEIGHBOUR: 'it returns false'. Refute it at one input. -/
def versionsNamesWrong : ChangeSpec := { name := "versionsNames", fn := fun _ => fun
  | [d] => { results := [.lit (.bool false)], args := [d] }
  | _ => none }
def VersionsNamesWrongFalsely : Prop := versionsNamesRow.holds Try.pinned (OpenSpec.ofChange versionsNamesWrong)

/-- 'rootcellarlaw14.VersionsStay': WHATEVER THE INPUT: true; the input reads as it did. -/
def versionsStaySpec : ChangeSpec := { name := "versionsStay", fn := fun _ => fun
  | [d] => { results := [.lit (.bool true)], args := [d] }
  | _ => none }
def versionsStayRow : OpenClaim := { program := "ytfllneenonhonaa", sum := "83ebb69f890fc5a42e92897acf7026f3a62613fff499f76019f4286c436c39f5", func := "rootcellar/rootcellarlaw14.VersionsStay", spec := "versionsStay", recurses := true, plainKeys := false, apart := false }
def VersionsStaySaid : Prop := versionsStayRow.holds Try.pinned (OpenSpec.ofChange versionsStaySpec)

/-- ITS FALSE NEIGHBOUR: 'it returns false'. Refute it at one input. -/
def versionsStayWrong : ChangeSpec := { name := "versionsStay", fn := fun _ => fun
  | [d] => { results := [.lit (.bool false)], args := [d] }
  | _ => none }
def VersionsStayWrongFalsely : Prop := versionsStayRow.holds Try.pinned (OpenSpec.ofChange versionsStayWrong)

/-- 'rootcellarlaw14.VersionsKnown': WHATEVER THE INPUT: true; the input reads as it did. -/
def versionsKnownSpec : ChangeSpec := { name := "versionsKnown", fn := fun _ => fun
  | [] => { results := [.lit (.bool true)], args := [] }
  | _ => none }
def versionsKnownRow : OpenClaim := { program := "ytfllneenonhonaa", sum := "83ebb69f890fc5a42e92897acf7026f3a62613fff499f76019f4286c436c39f5", func := "rootcellar/rootcellarlaw14.VersionsKnown", spec := "versionsKnown", recurses := true, plainKeys := false, apart := false }
def VersionsKnownSaid : Prop := versionsKnownRow.holds Try.pinned (OpenSpec.ofChange versionsKnownSpec)

/-- ITS FALSE NEIGHBOUR: 'it returns false'. Refute it at one input. -/
def versionsKnownWrong : ChangeSpec := { name := "versionsKnown", fn := fun _ => fun
  | [] => { results := [.lit (.bool false)], args := [] }
  | _ => none }
def VersionsKnownWrongFalsely : Prop := versionsKnownRow.holds Try.pinned (OpenSpec.ofChange versionsKnownWrong)

/- THE SECOND FORM. 'bulk': how many values and letters a reading holds, each counted each time it is reached (what is shared counts as often as it is met; a slice's spare places count too). A statement '..UptoSaid' is the law's where the arguments, and the package variables that the reading takes, are together of bulk at most 1048576: NARROWER than '..Said'. Prove '..Said' where nothing that the law and all that it calls make is longer than what came in: it says more and counts as full. Else prove '..UptoSaid'. A law counts once. -/
mutual
def uptoBulk {H : Type} : DataW H → Nat
  | .lit (.string bytes) => bytes.length + 1
  | .lit _ => 1
  | .nil => 1
  | .ptr d => uptoBulk d + 1
  | .slice elems spare => uptoBulkAll elems + uptoBulkAll spare + 1
  | .agg parts => uptoBulkAll parts + 1
  | .iface _ d => uptoBulk d + 1
  | .map entries => uptoBulkEntries entries + 1
  | .held _ => 1
def uptoBulkAll {H : Type} : List (DataW H) → Nat
  | [] => 0
  | d :: r => uptoBulk d + uptoBulkAll r
def uptoBulkEntries {H : Type} : List (Lit × DataW H) → Nat
  | [] => 0
  | x :: r => uptoBulkEntry x + uptoBulkEntries r
def uptoBulkEntry {H : Type} : Lit × DataW H → Nat
  | (.string bytes, d) => bytes.length + uptoBulk d + 1
  | (_, d) => uptoBulk d + 1
 end
def uptoSmall : (H : Type) → List (DataW H) → Bool := fun _ ds => decide (uptoBulkAll ds ≤ 1048576)
def OpenSpec.upto (s : _root_.Go.ChangeSpec) : _root_.Go.OpenSpec := { _root_.Go.OpenSpec.ofChange s with cond := some uptoSmall }

/-- 'rootcellarlaw13.ListNone', WHERE WHAT IT READS IS OF BULK AT MOST 1048576: true; the input reads as it did. -/
def listNoneUptoRow : OpenClaim := { program := "ytfllneenonhonaa", sum := "83ebb69f890fc5a42e92897acf7026f3a62613fff499f76019f4286c436c39f5", func := "rootcellar/rootcellarlaw13.ListNone", spec := "listNone", inPlace := ["internal/bytealg.abigen_runtime_cmpstring"], unfollowed := true, recurses := true, plainKeys := false, apart := false, narrowed := true }
def ListNoneUptoSaid : Prop := listNoneUptoRow.holds Try.pinned (OpenSpec.upto listNoneSpec)

/-- 'rootcellarlaw13.ListKnown', WHERE WHAT IT READS IS OF BULK AT MOST 1048576: true; the input reads as it did. -/
def listKnownUptoRow : OpenClaim := { program := "ytfllneenonhonaa", sum := "83ebb69f890fc5a42e92897acf7026f3a62613fff499f76019f4286c436c39f5", func := "rootcellar/rootcellarlaw13.ListKnown", spec := "listKnown", inPlace := ["internal/bytealg.abigen_runtime_cmpstring"], unfollowed := true, recurses := true, plainKeys := false, apart := false, narrowed := true }
def ListKnownUptoSaid : Prop := listKnownUptoRow.holds Try.pinned (OpenSpec.upto listKnownSpec)

/-- 'rootcellarlaw07.StoreTrees', WHERE WHAT IT READS IS OF BULK AT MOST 1048576: true; the input reads as it did. -/
def storeTreesUptoRow : OpenClaim := { program := "ytfllneenonhonaa", sum := "83ebb69f890fc5a42e92897acf7026f3a62613fff499f76019f4286c436c39f5", func := "rootcellar/rootcellarlaw07.StoreTrees", spec := "storeTrees", inPlace := ["internal/bytealg.abigen_runtime_cmpstring"], unfollowed := true, recurses := true, plainKeys := false, apart := false, narrowed := true }
def StoreTreesUptoSaid : Prop := storeTreesUptoRow.holds Try.pinned (OpenSpec.upto storeTreesSpec)

/-- 'rootcellarlaw14.VersionsNames', WHERE WHAT IT READS IS OF BULK AT MOST 1048576: true; the input reads as it did. -/
def versionsNamesUptoRow : OpenClaim := { program := "ytfllneenonhonaa", sum := "83ebb69f890fc5a42e92897acf7026f3a62613fff499f76019f4286c436c39f5", func := "rootcellar/rootcellarlaw14.VersionsNames", spec := "versionsNames", recurses := true, plainKeys := false, apart := false, narrowed := true }
def VersionsNamesUptoSaid : Prop := versionsNamesUptoRow.holds Try.pinned (OpenSpec.upto versionsNamesSpec)

/-- 'rootcellarlaw14.VersionsStay', WHERE WHAT IT READS IS OF BULK AT MOST 1048576: true; the input reads as it did. -/
def versionsStayUptoRow : OpenClaim := { program := "ytfllneenonhonaa", sum := "83ebb69f890fc5a42e92897acf7026f3a62613fff499f76019f4286c436c39f5", func := "rootcellar/rootcellarlaw14.VersionsStay", spec := "versionsStay", recurses := true, plainKeys := false, apart := false, narrowed := true }
def VersionsStayUptoSaid : Prop := versionsStayUptoRow.holds Try.pinned (OpenSpec.upto versionsStaySpec)

/-- 'rootcellarlaw14.VersionsKnown', WHERE WHAT IT READS IS OF BULK AT MOST 1048576: true; the input reads as it did. -/
def versionsKnownUptoRow : OpenClaim := { program := "ytfllneenonhonaa", sum := "83ebb69f890fc5a42e92897acf7026f3a62613fff499f76019f4286c436c39f5", func := "rootcellar/rootcellarlaw14.VersionsKnown", spec := "versionsKnown", recurses := true, plainKeys := false, apart := false, narrowed := true }
def VersionsKnownUptoSaid : Prop := versionsKnownUptoRow.holds Try.pinned (OpenSpec.upto versionsKnownSpec)

end Rows
end Go.Proofs.Ytfllneenonhonaa
