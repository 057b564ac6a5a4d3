/- What is asked of a list (law 13): an Ask that comes in. -/
import Derived.Test.YtfllneenonhonaaOpen
namespace Go.Proofs.Ytfllneenonhonaa
open Go Go.RowKit Go.Proofs.Ytfllneenonhonaa.ShaW Go.Proofs.Ytfllneenonhonaa.Path Go.Proofs.Ytfllneenonhonaa.Store Go.Proofs.Ytfllneenonhonaa.Law9 Go.Deep Go.ChangeShapes Go.WideShapes Go.ChangeAt
set_option maxHeartbeats 1600000
set_option linter.unusedVariables false

structure Ask13 where
  h : Int
  key : List UInt8
  to : List UInt8
  n : Int
  most : Int
def Ask13.cells (x : Ask13) : Array Value := (.int .i64 x.h :: (x.key.map bv ++ (x.to.map bv ++ [.int .i64 x.n, .int .i64 x.most]))).toArray
def InAsk (W : World) (v : Value) : Prop := ∃ x : Ask13, x.key.length = 32 ∧ x.to.length = 32 ∧ v = .agg x.cells
section
variable {x : Ask13} (h : x.key.length = 32) (ht : x.to.length = 32)
include h ht
theorem Ask13.size : x.cells.size = 67 := by simp [Ask13.cells, h, ht]
omit h ht in
theorem Ask13.list : x.cells.toList = .int .i64 x.h :: (x.key.map bv ++ (x.to.map bv ++ [.int .i64 x.n, .int .i64 x.most])) := rfl
omit h ht in
theorem Ask13.at_h : x.cells[0]? = some (.int .i64 x.h) := rfl
omit ht in
theorem Ask13.at_key : x.cells.extract 1 (1 + 32) = brow x.key := by
  apply Array.ext'
  simp only [Array.toList_extract, List.extract, Ask13.list, brow, List.drop_succ_cons, List.drop_zero]
  rw [List.take_append_of_le_length (by simp [h]), List.take_of_length_le (by simp [h])]
theorem Ask13.at_to : x.cells.extract 33 (33 + 32) = brow x.to := by
  apply Array.ext'
  simp only [Array.toList_extract, List.extract, Ask13.list, brow, List.drop_succ_cons]
  rw [List.drop_append_of_le_length (by simp [h]), List.drop_of_length_le (by simp [h]), List.nil_append, List.take_append_of_le_length (by simp [ht]), List.take_of_length_le (by simp [ht])]
theorem Ask13.tail (i : Nat) : x.cells[65 + i]? = [Value.int .i64 x.n, .int .i64 x.most][i]? := by
  rw [← Array.getElem?_toList, Ask13.list, show 65 + i = 64 + i + 1 by omega, List.getElem?_cons_succ, List.getElem?_append_right (by simp [h]; omega), List.getElem?_append_right (by simp [h, ht]; omega)]
  simp [h, ht]
  congr 1
  omega
theorem Ask13.at_n : x.cells[65]? = some (.int .i64 x.n) := Ask13.tail h ht 0
theorem Ask13.at_most : x.cells[66]? = some (.int .i64 x.most) := Ask13.tail h ht 1
end
section
variable {H : Type} {enc : TypeId × Value → H} {W : World} {base : Nat} {v : Value} {d : DataW H} {p : List MemPlace}
theorem cells_ask13 : Try.prog.cellsOf 25 = 67 := by kernel_rfl
set_option maxRecDepth 100000 in
theorem read_ask {n : Nat} {cs : List Value} {y : DataW H × List MemPlace} (h : DataW.trod enc Try.prog W base (fun _ => true) true n 25 cs = some y) : ∃ x : Ask13, x.key.length = 32 ∧ x.to.length = 32 ∧ cs = x.cells.toList := by
  obtain ⟨xs, m, rfl, hx, hl, hxl, hf⟩ := DataW.trod_struct Try.underlying25 h
  rw [cells_ask13] at hl
  have hx5 : xs.length = 5 := hxl
  have g := fun i (hi : i < 5) => (List.getElem?_eq_getElem (l := xs) (i := i) (by omega))
  have f0 := hf 0 ⟨ "H", 3, 0, false, "", "", 0⟩ rfl
  have f1 := hf 1 ⟨ "Key", 23, 1, false, "", "", 8⟩ rfl
  have f2 := hf 2 ⟨ "To", 23, 33, false, "", "", 40⟩ rfl
  have f3 := hf 3 ⟨ "N", 3, 65, false, "", "", 72⟩ rfl
  have f4 := hf 4 ⟨ "Most", 3, 66, false, "", "", 80⟩ rfl
  rw [g 0 (by omega)] at f0
  rw [g 1 (by omega)] at f1
  rw [g 2 (by omega)] at f2
  rw [g 3 (by omega)] at f3
  rw [g 4 (by omega)] at f4
  simp only [cells_int, cells_path] at f0 f1 f2 f3 f4
  obtain ⟨n0, e0, _, _⟩ := DataW.trod_int Try.underlying3 f0
  obtain ⟨k, e1, hk⟩ := read_key f1
  obtain ⟨k2, e2, hk2⟩ := read_key f2
  obtain ⟨n3, e3, _, _⟩ := DataW.trod_int Try.underlying3 f3
  obtain ⟨n4, e4, _, _⟩ := DataW.trod_int Try.underlying3 f4
  refine ⟨⟨n0, k, k2, n3, n4⟩, hk, hk2, ?_⟩
  have hsplit : cs = cs.take 1 ++ ((cs.drop 1).take 32 ++ ((cs.drop 33).take 32 ++ ((cs.drop 65).take 1 ++ (cs.drop 66).take 1))) := by
    have a5 : (cs.drop 66).take 1 = cs.drop 66 := List.take_of_length_le (by simp [hl])
    have step : ∀ i j, cs.drop i = (cs.drop i).take j ++ cs.drop (i + j) := fun i j => by
      conv => lhs; rw [← List.take_append_drop j (cs.drop i)]
      rw [List.drop_drop]
    rw [a5, ← step 65 1, ← step 33 32, ← step 1 32]
    exact step 0 1
  rw [hsplit]
  simp only [List.drop_zero] at e0
  rw [e0, e1, e2, e3, e4]
  rfl
set_option maxRecDepth 100000 in
theorem in_ask (hv : Value.okWide Try.prog W .any base 25 v)
    (h : DataW.Trod enc Try.prog W 0 (fun _ => true) true 25 v d p) : InAsk W v := by
  simp only [Value.okWide, Try.underlying25] at hv
  obtain ⟨cs, rfl, _, _⟩ := hv
  obtain ⟨m, hm⟩ := h
  obtain ⟨x, h1, h2, e⟩ := read_ask hm
  refine ⟨x, h1, h2, ?_⟩
  congr 1
  exact Array.ext' e
end
end Go.Proofs.Ytfllneenonhonaa
