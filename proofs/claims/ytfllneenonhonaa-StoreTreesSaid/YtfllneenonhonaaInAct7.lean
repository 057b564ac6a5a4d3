/- Acts of layer 7 that come in. -/
import Derived.Test.YtfllneenonhonaaAct7
namespace Go.Proofs.Ytfllneenonhonaa
set_option linter.unusedVariables false
open Go Go.RowKit Go.ChangeShapes Go.WideShapes Go.ChangeAt
set_option maxRecDepth 100000 in
def InActs7 (W : World) (v : Value) : Prop := ∃ ao len cap, v = .slice ao len cap ∧ Law7.ActsAt W ao len
set_option maxRecDepth 100000 in
theorem in_acts7 {H : Type} {enc : TypeId × Value → H} {W : World} {base : Nat} {v : Value} {d : DataW H} {p : List MemPlace} (hv : Value.okWide Try.prog W .any base 57 v)
    (h : DataW.Trod enc Try.prog W 0 (fun _ => true) true 57 v d p) : InActs7 W v := Law7.opened_acts hv h
end Go.Proofs.Ytfllneenonhonaa
