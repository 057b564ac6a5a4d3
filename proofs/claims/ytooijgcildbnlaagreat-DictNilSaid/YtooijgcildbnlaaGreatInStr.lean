/- A text that comes in. -/
import Derived.Test.YtooijgcildbnlaaGreatOpen
import Derived.ChangeMaps5
namespace Go.Proofs.YtooijgcildbnlaaGreat
open Go Go.RowKit Go.Proofs.YtooijgcildbnlaaGreat.ShaW Go.Proofs.YtooijgcildbnlaaGreat.Path Go.Proofs.YtooijgcildbnlaaGreat.Store Go.Proofs.YtooijgcildbnlaaGreat.Law9 Go.Deep Go.ChangeShapes Go.WideShapes Go.ChangeAt
set_option linter.unusedVariables false

def InStr (W : World) (v : Value) : Prop := ∃ s : ByteArray, s.size ≤ maxLen ∧ v = .string s
set_option maxRecDepth 100000 in
theorem in_str {H : Type} {enc : TypeId × Value → H} {W : World} {base : Nat} {v : Value} {d : DataW H} {p : List MemPlace} (hv : Value.okWide Tryz.prog W .any base 9 v)
    (h : DataW.Trod enc Tryz.prog W 0 (fun _ => true) true 9 v d p) : InStr W v := by
  obtain ⟨s, rfl, _, _, hs⟩ := Go.ChangeMaps.open_string Tryz.underlying9 hv h
  exact ⟨s, hs, rfl⟩
end Go.Proofs.YtooijgcildbnlaaGreat
