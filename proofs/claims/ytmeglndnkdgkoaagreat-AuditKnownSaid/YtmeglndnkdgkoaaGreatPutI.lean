/- What comes in for layers 9 and 10: acts, pairs, rows of pairs. -/
import Derived.Test.YtmeglndnkdgkoaaGreatRead
import Derived.Test.YtmeglndnkdgkoaaGreatStoreP1
namespace Go.Proofs.YtmeglndnkdgkoaaGreat.Law9
open Go Go.RowKit Go.Proofs.YtmeglndnkdgkoaaGreat Go.Proofs.YtmeglndnkdgkoaaGreat.ShaW Go.Proofs.YtmeglndnkdgkoaaGreat.Path Go.Proofs.YtmeglndnkdgkoaaGreat.Store Go.Deep Go.ChangeShapes Go.WideShapes Go.ChangeAt
set_option maxHeartbeats 1600000
set_option linter.unusedVariables false

structure Act9 where
  kind : Int
  key : List UInt8
  vv : Value
  val : List UInt8
  h : Int
def Act9.cells (x : Act9) : Array Value := (.int .i64 x.kind :: (x.key.map bv ++ [x.vv, .int .i64 x.h])).toArray
structure Act9.Good (w : World) (x : Act9) : Prop where
  key : x.key.length = 32
  val : Bytes w x.vv x.val
  blk : x.val ≠ [] → ∀ k, x.vv.ownBlock = some k → k < w.heap.size
section
variable {x : Act9} (h : x.key.length = 32)
include h
theorem Act9.size : x.cells.size = 35 := by simp [Act9.cells, h]
omit h in
theorem Act9.list : x.cells.toList = .int .i64 x.kind :: (x.key.map bv ++ [x.vv, .int .i64 x.h]) := rfl
theorem Act9.at_key : x.cells.extract 1 (1 + 32) = brow x.key := by
  apply Array.ext'
  simp only [Array.toList_extract, List.extract, Act9.list, brow, List.drop_succ_cons, List.drop_zero]
  rw [List.take_append_of_le_length (by simp [h]), List.take_of_length_le (by simp [h])]
theorem Act9.tail (i : Nat) : x.cells[33 + i]? = [x.vv, .int .i64 x.h][i]? := by
  rw [← Array.getElem?_toList, Act9.list, show 33 + i = 32 + i + 1 by omega, List.getElem?_cons_succ, List.getElem?_append_right (by simp [h])]
  simp [h]
theorem Act9.at_val : x.cells[33]? = some x.vv := Act9.tail h 0
theorem Act9.at_h : x.cells[34]? = some (.int .i64 x.h) := Act9.tail h 1
end
theorem Act9.Good.keep {F : Nat → Prop} {w w' : World} {x : Act9} (h : x.Good w) (hc : Ch F w w') (hF : ∀ k, F k → w.heap.size ≤ k) : x.Good w' :=
  ⟨h.key, h.val.keepw hc (fun h0 k hk hf => by have := h.blk h0 k hk; have := hF k hf; omega), fun h0 k hk => Nat.lt_of_lt_of_le (h.blk h0 k hk) hc.size⟩
structure Pr where
  key : List UInt8
  vv : Value
  val : List UInt8
def Pr.cells (x : Pr) : Array Value := (x.key.map bv ++ [x.vv]).toArray
structure Pr.Good (w : World) (x : Pr) : Prop where
  key : x.key.length = 32
  val : Bytes w x.vv x.val
  blk : x.val ≠ [] → ∀ k, x.vv.ownBlock = some k → k < w.heap.size
def Pr.ent (x : Pr) : List UInt8 × List UInt8 := (x.key, x.val)
section
variable {x : Pr} (h : x.key.length = 32)
include h
theorem Pr.size : x.cells.size = 33 := by simp [Pr.cells, h]
omit h in
theorem Pr.list : x.cells.toList = x.key.map bv ++ [x.vv] := rfl
theorem Pr.at_key : x.cells.extract 0 (0 + 32) = brow x.key := by
  apply Array.ext'
  simp only [Array.toList_extract, List.extract, Pr.list, brow, List.drop_zero]
  rw [List.take_append_of_le_length (by simp [h]), List.take_of_length_le (by simp [h])]
theorem Pr.at_val : x.cells[32]? = some x.vv := by
  rw [← Array.getElem?_toList, Pr.list, List.getElem?_append_right (by simp [h])]
  simp [h]
end
theorem Pr.one {w : World} {x : Pr} (h : x.Good w) : ∀ v ∈ x.cells.toList, v.oneCell' = true := fun v hv => by
  rw [Pr.list, List.mem_append, List.mem_map, List.mem_singleton] at hv
  rcases hv with ⟨b, _, rfl⟩ | rfl
  · rfl
  · obtain ⟨ao, cap, e, _⟩ := h.val.form
    rw [e]; rfl
theorem Pr.Good.keep {F : Nat → Prop} {w w' : World} {x : Pr} (h : x.Good w) (hc : Ch F w w') (hF : ∀ k, F k → w.heap.size ≤ k) : x.Good w' :=
  ⟨h.key, h.val.keepw hc (fun h0 k hk hf => by have := h.blk h0 k hk; have := hF k hf; omega), fun h0 k hk => Nat.lt_of_lt_of_le (h.blk h0 k hk) hc.size⟩
/-- A row of pairs that came in. -/
def PairsAt (w : World) (ao : Option Addr) (l : List Pr) : Prop := (∀ x ∈ l, x.Good w) ∧ ∀ i x, l[i]? = some x → ∃ (g off : Nat), ao = some ⟨g, off, none⟩ ∧ PartAt w g (off + i * 33) x.cells
theorem PairsAt.keep {F : Nat → Prop} {w w' : World} {ao : Option Addr} {l : List Pr} (h : PairsAt w ao l) (hc : Ch F w w') (hF : ∀ k, F k → w.heap.size ≤ k) : PairsAt w' ao l := ⟨fun x hx => (h.1 x hx).keep hc hF, fun i x hi => by
  obtain ⟨g, off, h1, h3⟩ := h.2 i x hi
  refine ⟨g, off, h1, h3.keep hc (fun hf => ?_)⟩
  obtain ⟨cur, t, fr, hr, _⟩ := h3
  have := row_lt hr
  have := hF g hf
  omega⟩

section
variable {H : Type} {enc : TypeId × Value → H} {W : World} {base : Nat}
theorem cells_act9 : Tryz.prog.cellsOf 47 = 35 := by kernel_rfl
theorem cells_path : Tryz.prog.cellsOf 31 = 32 := by kernel_rfl
set_option maxRecDepth 100000 in
theorem read_act {n : Nat} {cs : List Value} {y : DataW H × List MemPlace} (h : DataW.trod enc Tryz.prog W base (fun _ => true) true n 47 cs = some y) : ∃ x : Act9, x.Good W ∧ cs = x.cells.toList := by
  obtain ⟨xs, m, rfl, hx, hl, hxl, hf⟩ := DataW.trod_struct Tryz.underlying47 h
  rw [cells_act9] at hl
  have hx4 : xs.length = 4 := hxl
  have g := fun i (hi : i < 4) => (List.getElem?_eq_getElem (l := xs) (i := i) (by omega))
  have f0 := hf 0 ⟨ "Kind", 3, 0, false, "", "", 0⟩ rfl
  have f1 := hf 1 ⟨ "Key", 31, 1, false, "", "", 8⟩ rfl
  have f2 := hf 2 ⟨ "Value", 32, 33, false, "", "", 40⟩ rfl
  have f3 := hf 3 ⟨ "H", 3, 34, false, "", "", 64⟩ rfl
  rw [g 0 (by omega)] at f0
  rw [g 1 (by omega)] at f1
  rw [g 2 (by omega)] at f2
  rw [g 3 (by omega)] at f3
  simp only [cells_int, cells_path, cells_bytes] at f0 f1 f2 f3
  obtain ⟨n0, e0, _, _⟩ := DataW.trod_int Tryz.underlying3 f0
  obtain ⟨k, e1, hk⟩ := read_key f1
  obtain ⟨v, bs, e2, hb, hv⟩ := read_bytes f2
  obtain ⟨n3, e3, _, _⟩ := DataW.trod_int Tryz.underlying3 f3
  refine ⟨⟨n0, k, v, bs, n3⟩, ⟨hk, hb, hv⟩, ?_⟩
  have hsplit : cs = cs.take 1 ++ ((cs.drop 1).take 32 ++ ((cs.drop 33).take 1 ++ (cs.drop 34).take 1)) := by
    have a5 : (cs.drop 34).take 1 = cs.drop 34 := List.take_of_length_le (by simp [hl])
    have step : ∀ i j, cs.drop i = (cs.drop i).take j ++ cs.drop (i + j) := fun i j => by
      conv => lhs; rw [← List.take_append_drop j (cs.drop i)]
      rw [List.drop_drop]
    rw [a5, ← step 33 1, ← step 1 32]
    exact step 0 1
  rw [hsplit]
  simp only [List.drop_zero] at e0
  rw [e0, e1, e2, e3]
  rfl


theorem cells_pair : Tryz.prog.cellsOf 159 = 33 := by kernel_rfl
set_option maxRecDepth 100000 in
theorem read_pair {n : Nat} {cs : List Value} {y : DataW H × List MemPlace} (h : DataW.trod enc Tryz.prog W base (fun _ => true) true n 159 cs = some y) : ∃ x : Pr, x.Good W ∧ cs = x.cells.toList := by
  obtain ⟨xs, m, rfl, hx, hl, hxl, hf⟩ := DataW.trod_struct Tryz.underlying159 h
  rw [cells_pair] at hl
  have hx2 : xs.length = 2 := hxl
  have g := fun i (hi : i < 2) => (List.getElem?_eq_getElem (l := xs) (i := i) (by omega))
  have f1 := hf 0 ⟨ "Key", 31, 0, false, "", "", 0⟩ rfl
  have f2 := hf 1 ⟨ "Value", 32, 32, false, "", "", 32⟩ rfl
  rw [g 0 (by omega)] at f1
  rw [g 1 (by omega)] at f2
  simp only [cells_path, cells_bytes] at f1 f2
  obtain ⟨k, e1, hk⟩ := read_key f1
  obtain ⟨v, bs, e2, hb, hv⟩ := read_bytes f2
  refine ⟨⟨k, v, bs⟩, ⟨hk, hb, hv⟩, ?_⟩
  have hsplit : cs = cs.take 32 ++ (cs.drop 32).take 1 := by
    have a5 : (cs.drop 32).take 1 = cs.drop 32 := List.take_of_length_le (by simp [hl])
    rw [a5]
    exact (List.take_append_drop 32 cs).symm
  rw [hsplit]
  simp only [List.drop_zero] at e1
  rw [e1, e2]
  rfl
set_option maxRecDepth 100000 in
/-- One call that came in, opened. -/
theorem opened_act {v : Value} {d : DataW H} {p : List MemPlace} (hv : Value.okWide Tryz.prog W .any base 47 v)
    (h : DataW.Trod enc Tryz.prog W 0 (fun _ => true) true 47 v d p) : ∃ x : Act9, x.Good W ∧ v = .agg x.cells := by
  obtain ⟨cs, rfl, hsz⟩ := okWide_struct Tryz.underlying47 hv
  obtain ⟨m, hm⟩ := h
  obtain ⟨x, hg, hc⟩ := read_act hm
  refine ⟨x, hg, ?_⟩
  congr 1
  apply Array.ext'
  exact hc
set_option maxRecDepth 100000 in
/-- Pairs that came in, opened. -/
theorem opened_pairs {v : Value} {d : DataW H} {p : List MemPlace} (hv : Value.okWide Tryz.prog W .any base 63 v)
    (h : DataW.Trod enc Tryz.prog W 0 (fun _ => true) true 63 v d p) : ∃ ao l cap, v = .slice ao l.length cap ∧ PairsAt W ao l := by
  obtain ⟨ao, len, cap, rfl⟩ := okWide_slice Tryz.underlying63 hv
  obtain ⟨m, hm⟩ := h
  rcases open_slice Tryz.underlying63 hm with ⟨h0, _⟩ | ⟨a, l, c, mm, n, D, Pl, hcs, hb, hl, hc, hmm, hx, hi⟩
  · simp only [Value.cells, List.cons.injEq, Value.slice.injEq, and_true] at h0
    obtain ⟨rfl, rfl, rfl⟩ := h0
    exact ⟨_, [], _, rfl, ⟨fun x hx => (by cases hx), fun i x hi => (by simp at hi)⟩⟩
  · simp only [Value.cells, List.cons.injEq, Value.slice.injEq, and_true] at hcs
    obtain ⟨rfl, rfl, rfl⟩ := hcs
    have one : ∀ i, i < len → ∃ x : Pr, x.Good W ∧ ∃ g off, a = ⟨g, off, none⟩ ∧ PartAt W g (off + i * 33) x.cells := fun i hil => by
      obtain ⟨cs', h1, h2⟩ := hi i (by rw [hmm]; simp only [if_true]; exact Nat.lt_of_lt_of_le hil hl)
      rw [cells_pair] at h1
      obtain ⟨x, hg, rfl⟩ := read_pair h2
      obtain ⟨_, hlen, h3⟩ := World.cells?_some h1
      obtain ⟨g, off, spot⟩ := a
      cases spot with
      | none =>
        refine ⟨x, hg, g, off, rfl, ?_⟩
        have := PartAt.of_cells (w := W) (g := g) (o := off + i * 33) (m := 33) (cs := x.cells.toList) (by omega) hlen (fun j hj => by have := h3 j hj; simpa only [add_plain] using this)
        exact this
      | some s =>
        exfalso
        obtain ⟨cs', h1, h2⟩ := hi 0 (by rw [hmm]; simp only [if_true]; exact Nat.lt_of_lt_of_le (Nat.lt_of_le_of_lt (Nat.zero_le _) hil) hl)
        rw [cells_pair] at h1
        obtain ⟨x, hg, rfl⟩ := read_pair h2
        obtain ⟨_, hlen, h3⟩ := World.cells?_some h1
        have k0 := h3 0 (by omega)
        rw [cell_spot _ _ (by simp [Addr.add])] at k0
        have hp : 0 < x.cells.toList.length := by rw [hlen]; omega
        rw [List.getElem?_eq_getElem hp] at k0
        cases k0
    have hB : ∃ B : Nat → Pr, ∀ i, i < len → (B i).Good W ∧ ∃ g off, a = ⟨g, off, none⟩ ∧ PartAt W g (off + i * 33) (B i).cells := by
      refine ⟨fun i => if hi : i < len then Classical.choose (one i hi) else ⟨[], .slice none 0 0, []⟩, fun i hi => ?_⟩
      simp only [dif_pos hi]
      exact Classical.choose_spec (one i hi)
    obtain ⟨B, hB⟩ := hB
    refine ⟨some a, (List.range len).map B, cap, by simp, fun x hx => ?_, fun i x hi => ?_⟩
    · obtain ⟨j, hj, rfl⟩ := List.mem_map.1 hx
      exact (hB j (List.mem_range.1 hj)).1
    · have hil : i < len := by
        have := (List.getElem?_eq_some_iff.1 hi).1
        simpa using this
      have : x = B i := by simp [hil] at hi; exact hi.symm
      subst this
      obtain ⟨_, g, off, h1, h2⟩ := hB i hil
      exact ⟨g, off, by rw [h1], h2⟩
end
end Go.Proofs.YtmeglndnkdgkoaaGreat.Law9
