/- Writes with names that come in: a row of them. -/
import Derived.Test.YtfllneenonhonaaInStr
import Derived.Test.YtfllneenonhonaaName14
namespace Go.Proofs.Ytfllneenonhonaa.Law14
open Go Go.RowKit Go.Proofs.Ytfllneenonhonaa Go.Proofs.Ytfllneenonhonaa.ShaW Go.Proofs.Ytfllneenonhonaa.Path Go.Proofs.Ytfllneenonhonaa.Store Go.Proofs.Ytfllneenonhonaa.Law9 Go.Deep Go.ChangeShapes Go.WideShapes Go.ChangeAt
set_option maxHeartbeats 1600000
set_option linter.unusedVariables false

structure Wr where
  key : List UInt8
  vv : Value
  val : List UInt8
  nm : List UInt8
def Wr.cells (x : Wr) : Array Value := (x.key.map bv ++ [x.vv, .string (bstr x.nm)]).toArray
structure Wr.Good (w : World) (x : Wr) : Prop where
  key : x.key.length = 32
  val : Bytes w x.vv x.val
  blk : x.val ≠ [] → ∀ k, x.vv.ownBlock = some k → k < w.heap.size
  nm : x.nm.length ≤ maxLen
section
variable {x : Wr} (h : x.key.length = 32)
include h
theorem Wr.size : x.cells.size = 34 := by simp [Wr.cells, h]
omit h in
theorem Wr.list : x.cells.toList = x.key.map bv ++ [x.vv, .string (bstr x.nm)] := rfl
theorem Wr.at_key : x.cells.extract 0 (0 + 32) = brow x.key := by
  apply Array.ext'
  simp only [Array.toList_extract, List.extract, Wr.list, brow, List.drop_zero]
  rw [List.take_append_of_le_length (by simp [h]), List.take_of_length_le (by simp [h])]
theorem Wr.at_val : x.cells[32]? = some x.vv := by
  rw [← Array.getElem?_toList, Wr.list, List.getElem?_append_right (by simp [h])]
  simp [h]
theorem Wr.at_nm : x.cells[33]? = some (.string (bstr x.nm)) := by
  rw [← Array.getElem?_toList, Wr.list, List.getElem?_append_right (by simp [h])]
  simp [h]
end
theorem Wr.Good.keep {F : Nat → Prop} {w w' : World} {x : Wr} (h : x.Good w) (hc : Ch F w w') (hF : ∀ k, F k → w.heap.size ≤ k) : x.Good w' :=
  ⟨h.key, h.val.keepw hc (fun h0 k hk hf => by have := h.blk h0 k hk; have := hF k hf; omega), fun h0 k hk => Nat.lt_of_lt_of_le (h.blk h0 k hk) hc.size, h.nm⟩
def WritesAt (w : World) (ao : Option Addr) (l : List Wr) : Prop := (∀ x ∈ l, x.Good w) ∧ ∀ i x, l[i]? = some x → ∃ (g off : Nat), ao = some ⟨g, off, none⟩ ∧ PartAt w g (off + i * 34) x.cells
theorem WritesAt.keep {F : Nat → Prop} {w w' : World} {ao : Option Addr} {l : List Wr} (h : WritesAt w ao l) (hc : Ch F w w') (hF : ∀ k, F k → w.heap.size ≤ k) : WritesAt w' ao l := ⟨fun x hx => (h.1 x hx).keep hc hF, fun i x hi => by
  obtain ⟨g, off, h1, h3⟩ := h.2 i x hi
  refine ⟨g, off, h1, h3.keep hc (fun hf => ?_)⟩
  obtain ⟨cur, t, fr, hr, _⟩ := h3
  have := row_lt hr
  have := hF g hf
  omega⟩
def InWrites (W : World) (v : Value) : Prop := ∃ ao l cap, v = .slice ao (List.length l) cap ∧ WritesAt W ao l
section
variable {H : Type} {enc : TypeId × Value → H} {W : World} {base : Nat}
theorem cells_wr : Try.prog.cellsOf 86 = 34 := by kernel_rfl
theorem cells_str' : Try.prog.cellsOf 9 = 1 := by kernel_rfl
set_option maxRecDepth 100000 in
theorem read_wr {n : Nat} {cs : List Value} {y : DataW H × List MemPlace} (h : DataW.trod enc Try.prog W base (fun _ => true) true n 86 cs = some y) : ∃ x : Wr, x.Good W ∧ cs = x.cells.toList := by
  obtain ⟨xs, m, rfl, hx, hl, hxl, hf⟩ := DataW.trod_struct Try.underlying86 h
  rw [cells_wr] at hl
  have hx3 : xs.length = 3 := hxl
  have g := fun i (hi : i < 3) => (List.getElem?_eq_getElem (l := xs) (i := i) (by omega))
  have f1 := hf 0 ⟨ "Key", 23, 0, false, "", "", 0⟩ rfl
  have f2 := hf 1 ⟨ "Value", 35, 32, false, "", "", 32⟩ rfl
  have f3 := hf 2 ⟨ "Name", 9, 33, false, "", "", 56⟩ rfl
  rw [g 0 (by omega)] at f1
  rw [g 1 (by omega)] at f2
  rw [g 2 (by omega)] at f3
  simp only [cells_path, cells_bytes, cells_str'] at f1 f2 f3
  obtain ⟨k, e1, hk⟩ := read_key f1
  obtain ⟨v, bs, e2, hb, hv⟩ := read_bytes f2
  obtain ⟨s, e3, hs1, hs2⟩ := DataW.trod_string Try.underlying9 f3
  refine ⟨⟨k, v, bs, s.data.toList⟩, ⟨hk, hb, hv, by simpa using hs2⟩, ?_⟩
  have hsplit : cs = cs.take 32 ++ ((cs.drop 32).take 1 ++ (cs.drop 33).take 1) := by
    have a5 : (cs.drop 33).take 1 = cs.drop 33 := List.take_of_length_le (by simp [hl])
    have step : ∀ i j, cs.drop i = (cs.drop i).take j ++ cs.drop (i + j) := fun i j => by
      conv => lhs; rw [← List.take_append_drop j (cs.drop i)]
      rw [List.drop_drop]
    rw [a5, ← step 32 1]
    exact step 0 32
  rw [hsplit]
  simp only [List.drop_zero] at e1
  rw [e1, e2, e3]
  simp only [Wr.list, bstr_list]
  rfl
set_option maxRecDepth 100000 in
theorem in_writes {v : Value} {d : DataW H} {p : List MemPlace} (hv : Value.okWide Try.prog W .any base 80 v)
    (h : DataW.Trod enc Try.prog W 0 (fun _ => true) true 80 v d p) : InWrites W v := by
  obtain ⟨ao, len, cap, rfl⟩ := okWide_slice Try.underlying80 hv
  obtain ⟨m, hm⟩ := h
  rcases open_slice Try.underlying80 hm with ⟨h0, _⟩ | ⟨a, l, c, mm, n, D, Pl, hcs, hb, hl, hc, hmm, hx, hi⟩
  · simp only [Value.cells, List.cons.injEq, Value.slice.injEq, and_true] at h0
    obtain ⟨rfl, rfl, rfl⟩ := h0
    exact ⟨_, [], _, rfl, ⟨fun x hx => (by cases hx), fun i x hi => (by simp at hi)⟩⟩
  · simp only [Value.cells, List.cons.injEq, Value.slice.injEq, and_true] at hcs
    obtain ⟨rfl, rfl, rfl⟩ := hcs
    have one : ∀ i, i < len → ∃ x : Wr, x.Good W ∧ ∃ g off, a = ⟨g, off, none⟩ ∧ PartAt W g (off + i * 34) x.cells := fun i hil => by
      obtain ⟨cs', h1, h2⟩ := hi i (by rw [hmm]; simp only [if_true]; exact Nat.lt_of_lt_of_le hil hl)
      rw [cells_wr] at h1
      obtain ⟨x, hg, rfl⟩ := read_wr h2
      obtain ⟨_, hlen, h3⟩ := World.cells?_some h1
      obtain ⟨g, off, spot⟩ := a
      cases spot with
      | none =>
        refine ⟨x, hg, g, off, rfl, ?_⟩
        have := PartAt.of_cells (w := W) (g := g) (o := off + i * 34) (m := 34) (cs := x.cells.toList) (by omega) hlen (fun j hj => by have := h3 j hj; simpa only [add_plain] using this)
        exact this
      | some s =>
        exfalso
        obtain ⟨cs', h1, h2⟩ := hi 0 (by rw [hmm]; simp only [if_true]; exact Nat.lt_of_lt_of_le (Nat.lt_of_le_of_lt (Nat.zero_le _) hil) hl)
        rw [cells_wr] at h1
        obtain ⟨x, hg, rfl⟩ := read_wr h2
        obtain ⟨_, hlen, h3⟩ := World.cells?_some h1
        have k0 := h3 0 (by omega)
        rw [cell_spot _ _ (by simp [Addr.add])] at k0
        have hp : 0 < x.cells.toList.length := by rw [hlen]; omega
        rw [List.getElem?_eq_getElem hp] at k0
        cases k0
    have hB : ∃ B : Nat → Wr, ∀ i, i < len → (B i).Good W ∧ ∃ g off, a = ⟨g, off, none⟩ ∧ PartAt W g (off + i * 34) (B i).cells := by
      refine ⟨fun i => if hi : i < len then Classical.choose (one i hi) else ⟨[], .slice none 0 0, [], []⟩, fun i hi => ?_⟩
      simp only [dif_pos hi]
      exact Classical.choose_spec (one i hi)
    obtain ⟨B, hB⟩ := hB
    refine ⟨some a, (List.range len).map B, cap, by simp, fun x hx => ?_, fun i x hi => ?_⟩
    · obtain ⟨j, hj, rfl⟩ := List.mem_map.1 hx
      exact (hB j (List.mem_range.1 hj)).1
    · have hil : i < len := by
        have := (List.getElem?_eq_some_iff.1 hi).1
        simpa using this
      have : x = B i := by simp [hil] at hi; exact hi.symm
      subst this
      obtain ⟨_, g, off, h1, h2⟩ := hB i hil
      exact ⟨g, off, by rw [h1], h2⟩
end
end Go.Proofs.Ytfllneenonhonaa.Law14
