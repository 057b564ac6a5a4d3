/- The contracts of a sha.State: it stands for the text that was written. -/
import Derived.Test.YtdgdpbmaalcedaaShaT
namespace Go.Proofs.Ytdgdpbmaalcedaa.ShaW
open Go Go.RowKit Go.Proofs.Ytdgdpbmaalcedaa
set_option maxHeartbeats 1600000
set_option linter.unusedVariables false

/-- The cells of a state. -/
def stc (h : List UInt32) (bl : List UInt8) (n all : Nat) : Array Value := (.bool true :: (h.map wv ++ (bl.map bv ++ [.int .i64 (n : Nat), .int .i64 (all : Nat)]))).toArray
def StAt (w : World) (a : Nat) (h : List UInt32) (bl : List UInt8) (n all : Nat) : Prop := w.heap[a]? = some (.cells (stc h bl n all) 181 (0, 0))
/-- A state that stands for a text. -/
def Stands (w : World) (a : Nat) (txt : List UInt8) : Prop :=
  ∃ bl, bl.length = 64 ∧ bl.take (txt.length % 64) = Sha.rest txt ∧ StAt w a (Sha.words txt) bl (txt.length % 64) txt.length

section
variable {h : List UInt32} {bl : List UInt8} {n all : Nat} (hh : h.length = 8) (hb : bl.length = 64)
include hh hb
theorem stc_size : (stc h bl n all).size = 75 := by simp [stc, hh, hb]
theorem stc_n : (stc h bl n all)[73]? = some (.int .i64 (n : Nat)) := by
  simp only [stc, List.getElem?_toArray, List.getElem?_cons_succ]
  rw [List.getElem?_append_right (by simp [hh]), List.getElem?_append_right (by simp [hh, hb])]
  simp [hh, hb]
theorem stc_all : (stc h bl n all)[74]? = some (.int .i64 (all : Nat)) := by
  simp only [stc, List.getElem?_toArray, List.getElem?_cons_succ]
  rw [List.getElem?_append_right (by simp [hh]), List.getElem?_append_right (by simp [hh, hb])]
  simp [hh, hb]
theorem stc_set_n (m : Nat) : (stc h bl n all).setIfInBounds 73 (.int .i64 (m : Nat)) = stc h bl m all := by
  apply Array.ext'
  simp only [stc, Array.toList_setIfInBounds, List.set_cons_succ]
  rw [List.set_append_right _ _ (by simp [hh]), List.set_append_right _ _ (by simp [hh, hb])]
  simp [hh, hb]
theorem stc_set_all (m : Nat) : (stc h bl n all).setIfInBounds 74 (.int .i64 (m : Nat)) = stc h bl n m := by
  apply Array.ext'
  simp only [stc, Array.toList_setIfInBounds, List.set_cons_succ]
  rw [List.set_append_right _ _ (by simp [hh]), List.set_append_right _ _ (by simp [hh, hb])]
  simp [hh, hb]
theorem stc_h : (stc h bl n all).extract 1 9 = wrow h := by
  have _ := hb
  apply Array.ext'
  simp only [stc, Array.toList_extract, List.extract, List.drop_succ_cons, List.drop_zero, wrow]
  rw [List.take_append_of_le_length (by simp [hh]), List.take_of_length_le (by simp [hh])]
theorem stc_b : (stc h bl n all).extract 9 73 = brow bl := by
  apply Array.ext'
  simp only [stc, Array.toList_extract, List.extract, List.drop_succ_cons, brow]
  rw [List.drop_append, List.drop_eq_nil_of_le (by simp [hh]), List.nil_append]
  simp only [List.length_map, hh, Nat.sub_self, List.drop_zero]
  rw [List.take_append_of_le_length (by simp [hb]), List.take_of_length_le (by simp [hb])]
theorem stc_splice_h (h' : List UInt32) (hh' : h'.length = 8) : (splice (stc h bl n all).toList 1 (wrow h').toList).toArray = stc h' bl n all := by
  have _ := hb
  apply Array.ext'
  simp only [stc, splice, wrow, List.take_succ_cons, List.take_zero, List.length_map, hh']
  rw [show 1 + 8 = 8 + 1 by rfl, List.drop_succ_cons, List.drop_append, List.drop_eq_nil_of_le (by simp [hh])]
  simp [hh]
theorem stc_splice_b (cs : List UInt8) (hn : n + cs.length ≤ 64) : ((stc h bl n all).toList.take (9 + n) ++ (cs.map bv ++ (stc h bl n all).toList.drop (9 + n + cs.length))).toArray = stc h (bl.take n ++ cs ++ bl.drop (n + cs.length)) n all := by
  apply Array.ext'
  simp only [stc]
  rw [show 9 + n = (8 + n) + 1 by omega, show 8 + n + 1 + cs.length = (8 + n + cs.length) + 1 by omega, List.take_succ_cons, List.drop_succ_cons]
  have e1 : ((h.map wv) ++ (bl.map bv ++ [Value.int .i64 (n : Nat), .int .i64 (all : Nat)])).take (8 + n) = h.map wv ++ (bl.take n).map bv := by
    rw [List.take_append, List.take_of_length_le (by simp [hh]), List.length_map, hh, show 8 + n - 8 = n by omega, List.take_append_of_le_length (by simp [hb]; omega), List.map_take]
  have e2 : ((h.map wv) ++ (bl.map bv ++ [Value.int .i64 (n : Nat), .int .i64 (all : Nat)])).drop (8 + n + cs.length) = (bl.drop (n + cs.length)).map bv ++ [Value.int .i64 (n : Nat), .int .i64 (all : Nat)] := by
    rw [List.drop_append, List.drop_eq_nil_of_le (by simp [hh]; omega), List.nil_append, List.length_map, hh, show 8 + n + cs.length - 8 = n + cs.length by omega, List.drop_append_of_le_length (by simp [hb]; omega), List.map_drop]
  rw [e1, e2]
  simp
end

theorem none_no {w : World} {a : Nat} (h : w.cell? ⟨a, 0, none⟩ = some (.bool true)) :
    Calls Try.prog 124 #[.pointer (some ⟨a, 0, none⟩)] w fun e w' => e = .returned (.bool false) ∧ w = w' := by
  go_enter Try.func124, Try.ntmps124
  go_wp2
  go_ret
  exact ⟨rfl, rfl⟩

theorem stc_made {h : List UInt32} {bl : List UInt8} {n all : Nat} : (stc h bl n all)[0]? = some (.bool true) := rfl

end Go.Proofs.Ytdgdpbmaalcedaa.ShaW
