/- What comes in, one value at a time: keys, bytes, rows of pairs, rows of keys. -/
import Derived.Test.YtooijgcildbnlaaGreatPutI
namespace Go.Proofs.YtooijgcildbnlaaGreat
open Go Go.RowKit Go.Proofs.YtooijgcildbnlaaGreat.ShaW Go.Proofs.YtooijgcildbnlaaGreat.Path Go.Proofs.YtooijgcildbnlaaGreat.Store Go.Proofs.YtooijgcildbnlaaGreat.Law9 Go.Deep Go.ChangeShapes Go.WideShapes Go.ChangeAt
set_option maxHeartbeats 1600000
set_option linter.unusedVariables false

def InPath (W : World) (v : Value) : Prop := ∃ k : List UInt8, k.length = 32 ∧ v = .agg (brow k)
def InBytes (W : World) (v : Value) : Prop := ∃ bs : List UInt8, Bytes W v bs ∧ (bs ≠ [] → ∀ k, v.ownBlock = some k → k < W.heap.size)
def InPairs (W : World) (v : Value) : Prop := ∃ ao l cap, v = .slice ao (List.length l) cap ∧ PairsAt W ao l ∧ l.length ≤ cap
section
variable {H : Type} {enc : TypeId × Value → H} {W : World} {base : Nat} {v : Value} {d : DataW H} {p : List MemPlace}
set_option maxRecDepth 100000 in
theorem in_path (hv : Value.okWide Tryz.prog W .any base 24 v)
    (h : DataW.Trod enc Tryz.prog W 0 (fun _ => true) true 24 v d p) : InPath W v := by
  simp only [Value.okWide, Tryz.underlying24] at hv
  obtain ⟨cs, rfl, _, _⟩ := hv
  obtain ⟨m, hm⟩ := h
  obtain ⟨k, e, hk⟩ := read_key hm
  refine ⟨k, hk, ?_⟩
  congr 1
  apply Array.ext'
  rw [show cs.toList = _ from e]
  rfl
set_option maxRecDepth 100000 in
theorem in_bytes (hv : Value.okWide Tryz.prog W .any base 73 v)
    (h : DataW.Trod enc Tryz.prog W 0 (fun _ => true) true 73 v d p) : InBytes W v := by
  obtain ⟨ao, len, cap, rfl⟩ := okWide_slice Tryz.underlying73 hv
  obtain ⟨m, hm⟩ := h
  obtain ⟨v', bs, e, hb, hv'⟩ := read_bytes hm
  obtain rfl : (Value.slice ao len cap) = v' := by simpa [Value.cells] using e
  exact ⟨bs, hb, hv'⟩
set_option maxRecDepth 100000 in
theorem in_pairs (hv : Value.okWide Tryz.prog W .any base 33 v)
    (h : DataW.Trod enc Tryz.prog W 0 (fun _ => true) true 33 v d p) : InPairs W v := by
  obtain ⟨ao, l, cap, e, hp⟩ := opened_pairs hv h
  refine ⟨ao, l, cap, e, hp, ?_⟩
  subst e
  obtain ⟨m, hm⟩ := h
  rcases Deep.open_slice Tryz.underlying33 hm with ⟨h0, _⟩ | ⟨a, l', c, mm, n, D, Pl, hcs, hb, hl, hc, hmm, hx, hi⟩
  · simp only [Value.cells, List.cons.injEq, Value.slice.injEq, and_true] at h0
    omega
  · simp only [Value.cells, List.cons.injEq, Value.slice.injEq, and_true] at hcs
    omega
end
end Go.Proofs.YtooijgcildbnlaaGreat
