/- Calls of layer 15 that come in: rows of raw writes, calls, rows of calls. -/
import Derived.Test.YtooijgcildbnlaaGreatRowG
import Derived.Test.YtooijgcildbnlaaGreatInStr
import Derived.Test.YtooijgcildbnlaaGreatName14
namespace Go.Proofs.YtooijgcildbnlaaGreat.Law15
open Go Go.RowKit Go.Proofs.YtooijgcildbnlaaGreat Go.Proofs.YtooijgcildbnlaaGreat.ShaW Go.Proofs.YtooijgcildbnlaaGreat.Path Go.Proofs.YtooijgcildbnlaaGreat.Store Go.Proofs.YtooijgcildbnlaaGreat.Law9 Go.Deep Go.ChangeShapes Go.WideShapes Go.ChangeAt
set_option maxHeartbeats 1600000
set_option linter.unusedVariables false

/-! ### raw writes -/
structure Raw15 where
  kv : Value
  kb : List UInt8
  gone : Bool
  vv : Value
  vb : List UInt8
instance : Inhabited Raw15 := ⟨⟨.slice none 0 0, [], false, .slice none 0 0, []⟩⟩
def Raw15.cells (x : Raw15) : Array Value := #[x.kv, .bool x.gone, x.vv]
structure Raw15.Good (w : World) (x : Raw15) : Prop where
  key : Bytes w x.kv x.kb
  kblk : x.kb ≠ [] → ∀ k, x.kv.ownBlock = some k → k < w.heap.size
  val : Bytes w x.vv x.vb
  vblk : x.vb ≠ [] → ∀ k, x.vv.ownBlock = some k → k < w.heap.size
theorem Raw15.Good.keep {F : Nat → Prop} {w w' : World} {x : Raw15} (h : x.Good w) (hc : Ch F w w') (hF : ∀ k, F k → w.heap.size ≤ k) : x.Good w' :=
  ⟨h.key.keepw hc (fun h0 k hk hf => by have := h.kblk h0 k hk; have := hF k hf; omega), fun h0 k hk => Nat.lt_of_lt_of_le (h.kblk h0 k hk) hc.size,
   h.val.keepw hc (fun h0 k hk hf => by have := h.vblk h0 k hk; have := hF k hf; omega), fun h0 k hk => Nat.lt_of_lt_of_le (h.vblk h0 k hk) hc.size⟩
structure RawsAt (w : World) (ao : Option Addr) (l : List Raw15) : Prop where
  good : ∀ x ∈ l, x.Good w
  row : RowAt 3 Raw15.cells w ao l
theorem RawsAt.keep {F : Nat → Prop} {w w' : World} {ao : Option Addr} {l : List Raw15} (h : RawsAt w ao l) (hc : Ch F w w') (hF : ∀ k, F k → w.heap.size ≤ k) : RawsAt w' ao l := ⟨fun x hx => (h.good x hx).keep hc hF, h.row.keep hc hF⟩
/-! ### calls -/
structure Act15 where
  kind : Int
  nm : List UInt8
  kv : Value
  kb : List UInt8
  vv : Value
  vb : List UInt8
  ao : Option Addr
  l : List Raw15
  cap : Nat
  most : Int
instance : Inhabited Act15 := ⟨⟨0, [], .slice none 0 0, [], .slice none 0 0, [], none, [], 0, 0⟩⟩
def Act15.cells (x : Act15) : Array Value := #[.int .u8 x.kind, .string (bstr x.nm), x.kv, x.vv, .slice x.ao x.l.length x.cap, .int .i64 x.most]
structure Act15.Good (w : World) (x : Act15) : Prop where
  kind : 0 ≤ x.kind ∧ x.kind ≤ 255
  nm : x.nm.length ≤ maxLen
  key : Bytes w x.kv x.kb
  kblk : x.kb ≠ [] → ∀ k, x.kv.ownBlock = some k → k < w.heap.size
  val : Bytes w x.vv x.vb
  vblk : x.vb ≠ [] → ∀ k, x.vv.ownBlock = some k → k < w.heap.size
  raws : RawsAt w x.ao x.l
  len : x.l.length ≤ x.cap ∧ x.cap ≤ maxLen
  most : (Lit.int .i64 x.most).wf = true
theorem Act15.Good.keep {F : Nat → Prop} {w w' : World} {x : Act15} (h : x.Good w) (hc : Ch F w w') (hF : ∀ k, F k → w.heap.size ≤ k) : x.Good w' :=
  ⟨h.kind, h.nm, h.key.keepw hc (fun h0 k hk hf => by have := h.kblk h0 k hk; have := hF k hf; omega), fun h0 k hk => Nat.lt_of_lt_of_le (h.kblk h0 k hk) hc.size,
   h.val.keepw hc (fun h0 k hk hf => by have := h.vblk h0 k hk; have := hF k hf; omega), fun h0 k hk => Nat.lt_of_lt_of_le (h.vblk h0 k hk) hc.size, h.raws.keep hc hF, h.len, h.most⟩
structure ActsAt (w : World) (ao : Option Addr) (l : List Act15) : Prop where
  good : ∀ x ∈ l, x.Good w
  row : RowAt 6 Act15.cells w ao l
theorem ActsAt.keep {F : Nat → Prop} {w w' : World} {ao : Option Addr} {l : List Act15} (h : ActsAt w ao l) (hc : Ch F w w') (hF : ∀ k, F k → w.heap.size ≤ k) : ActsAt w' ao l := ⟨fun x hx => (h.good x hx).keep hc hF, h.row.keep hc hF⟩
section
variable {H : Type} {enc : TypeId × Value → H} {W : World} {base : Nat}
theorem cells_raw : Tryz.prog.cellsOf 201 = 3 := by kernel_rfl
theorem cells_bool' : Tryz.prog.cellsOf 4 = 1 := by kernel_rfl
theorem cells_u8' : Tryz.prog.cellsOf 5 = 1 := by kernel_rfl
theorem cells_raws : Tryz.prog.cellsOf 78 = 1 := by kernel_rfl
theorem cells_string' : Tryz.prog.cellsOf 9 = 1 := by kernel_rfl
theorem cells_act15 : Tryz.prog.cellsOf 80 = 6 := by kernel_rfl
theorem drop_step (cs : List Value) (i j : Nat) : cs.drop i = (cs.drop i).take j ++ cs.drop (i + j) := by
  conv => lhs; rw [← List.take_append_drop j (cs.drop i)]
  rw [List.drop_drop]
set_option maxRecDepth 100000 in
theorem read_raw {n : Nat} {cs : List Value} {y : DataW H × List MemPlace} (h : DataW.trod enc Tryz.prog W base (fun _ => true) true n 201 cs = some y) : ∃ x : Raw15, x.Good W ∧ cs = x.cells.toList := by
  obtain ⟨xs, m, rfl, hx, hl, hxl, hf⟩ := DataW.trod_struct Tryz.underlying201 h
  rw [cells_raw] at hl
  have hx3 : xs.length = 3 := hxl
  have g := fun i (hi : i < 3) => (List.getElem?_eq_getElem (l := xs) (i := i) (by omega))
  have f0 := hf 0 ⟨ "Key", 73, 0, false, "", "", 0⟩ rfl
  have f1 := hf 1 ⟨ "Gone", 4, 1, false, "", "", 24⟩ rfl
  have f2 := hf 2 ⟨ "Value", 73, 2, false, "", "", 32⟩ rfl
  rw [g 0 (by omega)] at f0
  rw [g 1 (by omega)] at f1
  rw [g 2 (by omega)] at f2
  simp only [cells_bytes, cells_bool'] at f0 f1 f2
  obtain ⟨kv, kb, e0, h1, h2⟩ := read_bytes f0
  obtain ⟨b, e1, _⟩ := DataW.trod_bool Tryz.underlying4 f1
  obtain ⟨vv, vb, e2, h3, h4⟩ := read_bytes f2
  refine ⟨⟨kv, kb, b, vv, vb⟩, ⟨h1, h2, h3, h4⟩, ?_⟩
  have a : cs.drop 2 = (cs.drop 2).take 1 := (List.take_of_length_le (by simp [hl])).symm
  have : cs = (cs.drop 0).take 1 ++ ((cs.drop 1).take 1 ++ (cs.drop 2).take 1) := by
    rw [← a, ← drop_step cs 1 1]
    exact drop_step cs 0 1
  rw [this, e0, e1, e2]
  rfl
set_option maxRecDepth 100000 in
theorem read_act15 {n : Nat} {cs : List Value} {y : DataW H × List MemPlace} (h : DataW.trod enc Tryz.prog W base (fun _ => true) true n 80 cs = some y) : ∃ x : Act15, x.Good W ∧ cs = x.cells.toList := by
  obtain ⟨xs, m, rfl, hx, hl, hxl, hf⟩ := DataW.trod_struct Tryz.underlying80 h
  rw [cells_act15] at hl
  have hx6 : xs.length = 6 := hxl
  have g := fun i (hi : i < 6) => (List.getElem?_eq_getElem (l := xs) (i := i) (by omega))
  have f0 := hf 0 ⟨ "Kind", 5, 0, false, "", "", 0⟩ rfl
  have f1 := hf 1 ⟨ "Name", 9, 1, false, "", "", 8⟩ rfl
  have f2 := hf 2 ⟨ "Key", 73, 2, false, "", "", 24⟩ rfl
  have f3 := hf 3 ⟨ "Value", 73, 3, false, "", "", 48⟩ rfl
  have f4 := hf 4 ⟨ "L", 78, 4, false, "", "", 72⟩ rfl
  have f5 := hf 5 ⟨ "Most", 3, 5, false, "", "", 96⟩ rfl
  rw [g 0 (by omega)] at f0
  rw [g 1 (by omega)] at f1
  rw [g 2 (by omega)] at f2
  rw [g 3 (by omega)] at f3
  rw [g 4 (by omega)] at f4
  rw [g 5 (by omega)] at f5
  simp only [cells_bytes, cells_u8', cells_string', cells_raws, cells_int] at f0 f1 f2 f3 f4 f5
  obtain ⟨kd, e0, _, w0⟩ := DataW.trod_int Tryz.underlying5 f0
  obtain ⟨s, e1, hs1, hs2⟩ := DataW.trod_string Tryz.underlying9 f1
  obtain ⟨kv, kb, e2, h1, h2⟩ := read_bytes f2
  obtain ⟨vv, vb, e3, h3, h4⟩ := read_bytes f3
  obtain ⟨ao, l, cap, e4, h5, h6⟩ := open_row (m := 3) (by decide) (cells := Raw15.cells) Tryz.underlying78 cells_raw (fun h => read_raw h) f4
  obtain ⟨mo, e5, _, w5⟩ := DataW.trod_int Tryz.underlying3 f5
  have hcap : l.length ≤ cap ∧ cap ≤ maxLen := by
    rcases open_slice Tryz.underlying78 f4 with ⟨h0, _⟩ | ⟨a, len, cap', mm, n, D, Pl, hcs, hb, hl, hc, hmm, hx, hi⟩
    · rw [e4] at h0
      simp only [List.cons.injEq, Value.slice.injEq, and_true] at h0
      omega
    · rw [e4] at hcs
      simp only [List.cons.injEq, Value.slice.injEq, and_true] at hcs
      omega
  refine ⟨⟨kd, s.data.toList, kv, kb, vv, vb, ao, l, cap, mo⟩, ⟨bounds_u8 w0, by simpa using hs2, h1, h2, h3, h4, ⟨h5, h6⟩, hcap, w5⟩, ?_⟩
  have a : cs.drop 5 = (cs.drop 5).take 1 := (List.take_of_length_le (by simp [hl])).symm
  have : cs = (cs.drop 0).take 1 ++ ((cs.drop 1).take 1 ++ ((cs.drop 2).take 1 ++ ((cs.drop 3).take 1 ++ ((cs.drop 4).take 1 ++ (cs.drop 5).take 1)))) := by
    rw [← a, ← drop_step cs 4 1, ← drop_step cs 3 1, ← drop_step cs 2 1, ← drop_step cs 1 1]
    exact drop_step cs 0 1
  rw [this, e0, e1, e2, e3, e4, e5]
  simp only [Act15.cells, bstr_list]
  rfl
def InAct15 (W : World) (v : Value) : Prop := ∃ x : Act15, x.Good W ∧ v = .agg x.cells
def InActs15 (W : World) (v : Value) : Prop := ∃ ao l cap, v = .slice ao (List.length l) cap ∧ ActsAt W ao l
set_option maxRecDepth 100000 in
theorem in_act15 {v : Value} {d : DataW H} {p : List MemPlace} (hv : Value.okWide Tryz.prog W .any base 80 v)
    (h : DataW.Trod enc Tryz.prog W 0 (fun _ => true) true 80 v d p) : InAct15 W v := by
  obtain ⟨cs, rfl, hsz⟩ := okWide_struct Tryz.underlying80 hv
  obtain ⟨m, hm⟩ := h
  obtain ⟨x, hg, e⟩ := read_act15 hm
  refine ⟨x, hg, ?_⟩
  have : cs = x.cells := by
    apply Array.ext'
    exact e
  rw [this]
set_option maxRecDepth 100000 in
theorem in_acts15 {v : Value} {d : DataW H} {p : List MemPlace} (hv : Value.okWide Tryz.prog W .any base 72 v)
    (h : DataW.Trod enc Tryz.prog W 0 (fun _ => true) true 72 v d p) : InActs15 W v := by
  obtain ⟨m, hm⟩ := h
  obtain ⟨ao, l, cap, e, h1, h2⟩ := open_row (m := 6) (by decide) (cells := Act15.cells) Tryz.underlying72 cells_act15 (fun h => read_act15 h) hm
  obtain ⟨ao', len, cap', rfl⟩ := okWide_slice Tryz.underlying72 hv
  simp only [Value.cells, List.cons.injEq, Value.slice.injEq, and_true] at e
  obtain ⟨rfl, rfl, rfl⟩ := e
  exact ⟨_, l, _, rfl, h1, h2⟩
end
end Go.Proofs.YtooijgcildbnlaaGreat.Law15
