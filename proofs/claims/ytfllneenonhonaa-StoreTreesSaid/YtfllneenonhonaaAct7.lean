/- Layer 7's statements: the calls that come in. -/
import Derived.Test.YtfllneenonhonaaRead
import Derived.Test.YtfllneenonhonaaAwake7
namespace Go.Proofs.Ytfllneenonhonaa.Law7
open Go Go.RowKit Go.Proofs.Ytfllneenonhonaa Go.Proofs.Ytfllneenonhonaa.ShaW Go.Proofs.Ytfllneenonhonaa.Path Go.Proofs.Ytfllneenonhonaa.Store Go.Deep Go.ChangeShapes Go.WideShapes Go.ChangeAt
set_option maxHeartbeats 1600000
set_option linter.unusedVariables false

structure Act7 where
  kind : Int
  key : List UInt8
  vv : Value
  val : List UInt8
  d : Int
  a : Int
  b : Int
def Act7.cells (x : Act7) : Array Value := (.int .i64 x.kind :: (x.key.map bv ++ [x.vv, .int .i64 x.d, .int .i64 x.a, .int .i64 x.b])).toArray
structure Act7.Good (w : World) (x : Act7) : Prop where
  key : x.key.length = 32
  val : Bytes w x.vv x.val
  blk : x.val ≠ [] → ∀ k, x.vv.ownBlock = some k → k < w.heap.size
section
variable {x : Act7} (h : x.key.length = 32)
include h
theorem Act7.size : x.cells.size = 37 := by simp [Act7.cells, h]
omit h in
theorem Act7.list : x.cells.toList = .int .i64 x.kind :: (x.key.map bv ++ [x.vv, .int .i64 x.d, .int .i64 x.a, .int .i64 x.b]) := rfl
omit h in
theorem Act7.at_kind : x.cells[0]? = some (.int .i64 x.kind) := rfl
theorem Act7.at_key : x.cells.extract 1 (1 + 32) = brow x.key := by
  apply Array.ext'
  simp only [Array.toList_extract, List.extract, Act7.list, brow, List.drop_succ_cons, List.drop_zero]
  rw [List.take_append_of_le_length (by simp [h]), List.take_of_length_le (by simp [h])]
theorem Act7.tail (i : Nat) : x.cells[33 + i]? = [x.vv, .int .i64 x.d, .int .i64 x.a, .int .i64 x.b][i]? := by
  rw [← Array.getElem?_toList, Act7.list, show 33 + i = 32 + i + 1 by omega, List.getElem?_cons_succ, List.getElem?_append_right (by simp [h])]
  simp [h]
theorem Act7.at_val : x.cells[33]? = some x.vv := Act7.tail h 0
theorem Act7.at_d : x.cells[34]? = some (.int .i64 x.d) := Act7.tail h 1
theorem Act7.at_a : x.cells[35]? = some (.int .i64 x.a) := Act7.tail h 2
theorem Act7.at_b : x.cells[36]? = some (.int .i64 x.b) := Act7.tail h 3
end
theorem Act7.Good.keep {F : Nat → Prop} {w w' : World} {x : Act7} (h : x.Good w) (hc : Ch F w w') (hF : ∀ k, F k → w.heap.size ≤ k) : x.Good w' :=
  ⟨h.key, h.val.keepw hc (fun h0 k hk hf => by have := h.blk h0 k hk; have := hF k hf; omega), fun h0 k hk => Nat.lt_of_lt_of_le (h.blk h0 k hk) hc.size⟩
/-- The calls that came in. -/
def ActsAt (w : World) (ao : Option Addr) (len : Nat) : Prop := ∀ i, i < len → ∃ (g off : Nat) (x : Act7), ao = some ⟨g, off, none⟩ ∧ x.Good w ∧ PartAt w g (off + i * 37) x.cells
theorem ActsAt.keep {F : Nat → Prop} {w w' : World} {ao : Option Addr} {len : Nat} (h : ActsAt w ao len) (hc : Ch F w w') (hF : ∀ k, F k → w.heap.size ≤ k) : ActsAt w' ao len := fun i hi => by
  obtain ⟨g, off, x, h1, h2, h3⟩ := h i hi
  refine ⟨g, off, x, h1, h2.keep hc hF, h3.keep hc (fun hf => ?_)⟩
  obtain ⟨cur, t, fr, hr, _⟩ := h3
  have := row_lt hr
  have := hF g hf
  omega

section
variable {H : Type} {enc : TypeId × Value → H} {W : World} {base : Nat}
theorem cells_act7 : Try.prog.cellsOf 62 = 37 := by kernel_rfl
theorem cells_path : Try.prog.cellsOf 23 = 32 := by kernel_rfl
set_option maxRecDepth 100000 in
theorem read_act {n : Nat} {cs : List Value} {y : DataW H × List MemPlace} (h : DataW.trod enc Try.prog W base (fun _ => true) true n 62 cs = some y) : ∃ x : Act7, x.Good W ∧ cs = x.cells.toList := by
  obtain ⟨xs, m, rfl, hx, hl, hxl, hf⟩ := DataW.trod_struct Try.underlying62 h
  rw [cells_act7] at hl
  have hx6 : xs.length = 6 := hxl
  have g := fun i (hi : i < 6) => (List.getElem?_eq_getElem (l := xs) (i := i) (by omega))
  have f0 := hf 0 ⟨ "Kind", 3, 0, false, "", "", 0⟩ rfl
  have f1 := hf 1 ⟨ "Key", 23, 1, false, "", "", 8⟩ rfl
  have f2 := hf 2 ⟨ "Value", 35, 33, false, "", "", 40⟩ rfl
  have f3 := hf 3 ⟨ "D", 3, 34, false, "", "", 64⟩ rfl
  have f4 := hf 4 ⟨ "A", 3, 35, false, "", "", 72⟩ rfl
  have f5 := hf 5 ⟨ "B", 3, 36, false, "", "", 80⟩ rfl
  rw [g 0 (by omega)] at f0
  rw [g 1 (by omega)] at f1
  rw [g 2 (by omega)] at f2
  rw [g 3 (by omega)] at f3
  rw [g 4 (by omega)] at f4
  rw [g 5 (by omega)] at f5
  simp only [cells_int, cells_path, cells_bytes] at f0 f1 f2 f3 f4 f5
  obtain ⟨n0, e0, _, _⟩ := DataW.trod_int Try.underlying3 f0
  obtain ⟨k, e1, hk⟩ := read_key f1
  obtain ⟨v, bs, e2, hb, hv⟩ := read_bytes f2
  obtain ⟨n3, e3, _, _⟩ := DataW.trod_int Try.underlying3 f3
  obtain ⟨n4, e4, _, _⟩ := DataW.trod_int Try.underlying3 f4
  obtain ⟨n5, e5, _, _⟩ := DataW.trod_int Try.underlying3 f5
  refine ⟨⟨n0, k, v, bs, n3, n4, n5⟩, ⟨hk, hb, hv⟩, ?_⟩
  have hsplit : cs = cs.take 1 ++ ((cs.drop 1).take 32 ++ ((cs.drop 33).take 1 ++ ((cs.drop 34).take 1 ++ ((cs.drop 35).take 1 ++ (cs.drop 36).take 1)))) := by
    have a5 : (cs.drop 36).take 1 = cs.drop 36 := List.take_of_length_le (by simp [hl])
    have step : ∀ i j, cs.drop i = (cs.drop i).take j ++ cs.drop (i + j) := fun i j => by
      conv => lhs; rw [← List.take_append_drop j (cs.drop i)]
      rw [List.drop_drop]
    rw [a5, ← step 35 1, ← step 34 1, ← step 33 1, ← step 1 32]
    exact step 0 1
  rw [hsplit]
  simp only [List.drop_zero] at e0
  rw [e0, e1, e2, e3, e4, e5]
  rfl

set_option maxRecDepth 100000 in
/-- The calls that came in, opened. -/
theorem opened_acts {v : Value} {d : DataW H} {p : List MemPlace} (hv : Value.okWide Try.prog W .any base 57 v)
    (h : DataW.Trod enc Try.prog W 0 (fun _ => true) true 57 v d p) : ∃ ao len cap, v = .slice ao len cap ∧ ActsAt W ao len := by
  obtain ⟨ao, len, cap, rfl⟩ := okWide_slice Try.underlying57 hv
  obtain ⟨m, hm⟩ := h
  rcases open_slice Try.underlying57 hm with ⟨h0, _⟩ | ⟨a, l, c, mm, n, D, Pl, hcs, hb, hl, hc, hmm, hx, hi⟩
  · simp only [Value.cells, List.cons.injEq, Value.slice.injEq, and_true] at h0
    obtain ⟨rfl, rfl, rfl⟩ := h0
    exact ⟨_, _, _, rfl, fun i hi => absurd hi (Nat.not_lt_zero i)⟩
  · simp only [Value.cells, List.cons.injEq, Value.slice.injEq, and_true] at hcs
    obtain ⟨rfl, rfl, rfl⟩ := hcs
    refine ⟨_, _, _, rfl, fun i hil => ?_⟩
    obtain ⟨cs', h1, h2⟩ := hi i (by rw [hmm]; simp only [if_true]; exact Nat.lt_of_lt_of_le hil hl)
    rw [cells_act7] at h1
    obtain ⟨x, hg, rfl⟩ := read_act h2
    obtain ⟨_, hlen, h3⟩ := World.cells?_some h1
    obtain ⟨g, off, spot⟩ := a
    cases spot with
    | none =>
      refine ⟨g, off, x, rfl, hg, ?_⟩
      have := PartAt.of_cells (w := W) (g := g) (o := off + i * 37) (m := 37) (cs := x.cells.toList) (by omega) hlen (fun j hj => by have := h3 j hj; simpa only [add_plain] using this)
      exact this
    | some s =>
      exfalso
      obtain ⟨cs', h1, h2⟩ := hi 0 (by rw [hmm]; simp only [if_true]; exact Nat.lt_of_lt_of_le (Nat.lt_of_le_of_lt (Nat.zero_le _) hil) hl)
      rw [cells_act7] at h1
      obtain ⟨x, hg, rfl⟩ := read_act h2
      obtain ⟨_, _, h3⟩ := World.cells?_some h1
      have k0 := h3 0 (by omega)
      rw [cell_spot _ _ (by simp [Addr.add])] at k0
      cases k0
end
end Go.Proofs.Ytfllneenonhonaa.Law7
