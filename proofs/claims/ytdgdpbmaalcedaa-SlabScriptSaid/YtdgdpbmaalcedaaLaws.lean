/- Plain laws: parts of rows of cells (a struct among a slice's elements): read, written, built, by whole blocks. -/
import Derived.Test.YtdgdpbmaalcedaaBase
import Derived.Deep.MidRow
import Derived.Great.BuildSlice
import Derived.OneCell
import Derived.ArgAppend
import Derived.Deep.QuietTactic
namespace Go.Proofs.Ytdgdpbmaalcedaa
open Go Go.RowKit

/-- A row with 'v' laid over it from place 'off' on. -/
def splice (cur : List Value) (off : Nat) (v : List Value) : List Value := cur.take off ++ v ++ cur.drop (off + v.length)

theorem splice_length (cur : List Value) (off : Nat) (v : List Value) (h : off + v.length ≤ cur.length) : (splice cur off v).length = cur.length := by
  simp [splice]; omega

theorem foldl_splice : ∀ (v : List Value) (cells : Array Value) (off k : Nat), off + k + v.length ≤ cells.size →
    ((v.zipIdx k).foldl (fun (cs : Array Value) (c, j) => cs.setIfInBounds (off + j) c) cells).toList = splice cells.toList (off + k) v
  | [], cells, off, k, h => by simp [splice]
  | x :: v, cells, off, k, h => by
    simp only [List.length_cons] at h
    simp only [List.zipIdx_cons, List.foldl_cons]
    rw [foldl_splice v _ off (k + 1) (by simp; omega)]
    simp only [splice, Array.toList_setIfInBounds, List.length_cons]
    have hk : off + k < cells.toList.length := by simp; omega
    rw [show off + (k + 1) = off + k + 1 by omega]
    rw [show off + k + (v.length + 1) = off + k + 1 + v.length by omega]
    rw [List.take_set, List.take_succ_eq_append_getElem (by simpa using hk)]
    rw [List.drop_set]
    have hl : (List.take (off + k) cells.toList).length = off + k := by rw [List.length_take]; omega
    have e : ∀ (l : List Value) (y : Value), l.length = off + k → (l ++ [y]).set (off + k) x = l ++ [x] := fun l y e => by rw [← e]; simp
    rw [if_pos (by omega), e _ _ hl]
    simp

theorem fill_step {place : Nat → Option (Nat × Nat)} {cells : Array Value} {i off size : Nat} {v : Value} {rest : List (Nat × Value)} (hp : place i = some (off, size)) (hv : v.cells.size = size) (hfit : off + size ≤ cells.size) :
    Instr.fill place cells ((i, v) :: rest) = Instr.fill place (splice cells.toList off v.cells.toList).toArray rest := by
  have h := foldl_splice v.cells.toList cells off 0 (by simp; omega)
  have hh : ¬ (v.cells.size ≠ size ∨ off + v.cells.size > cells.size) := by omega
  simp only [Instr.fill, hp]
  rw [if_neg (by simpa using hh)]
  congr 1
  apply Array.ext'
  rw [Nat.add_zero] at h
  rw [← Array.foldl_toList]
  simpa using h

/-- An owned row told anew, of its block. -/
theorem owns_mk' {w : World} {g n cap sz : Nat} {e : TypeId} {cur : Array Value} {xs : List Value} (hg : w.heap[g]? = some (.cells cur e (0, 0))) (h1 : n ≤ cap) (h2 : cap ≤ maxLen) (h3 : cur.size = cap * sz) (h4 : cur.toList.take (n * sz) = xs) :
    w.ownsRow 0 e sz (.slice (some ⟨g, 0, none⟩) n cap) n xs := by
  refine ⟨?_, .inr ⟨g, cap, cur, rfl, Nat.zero_le _, hg, h1, h2, h3, h4⟩⟩
  rw [← h4, List.length_take]
  have : n * sz ≤ cap * sz := Nat.mul_le_mul_right _ h1
  simp only [Array.length_toList]
  omega

section
variable {P : Program}

theorem run_load_part (w : World) {g off n : Nat} {ty t : TypeId} {cur : Array Value} {fr : Nat × Nat} {d : TypeDesc} (hg : w.heap[g]? = some (.cells cur t fr)) (hu : P.underlying ty = some d)
    (hd : d.isRow = true) (hi : (P.info? ty).map (·.size) = some n) (hfit : off + n ≤ cur.size) :
    (loadVar ty ⟨g, off, none⟩).run P w = .ok (.agg (cur.extract off (off + n))) w := by
  have := run_loadVar_mid (P := P) w g off ty (cur.extract off (off + n)).toList d (World.rangeAt_of_block hg off n) hu hd (by rw [hi]; simp; omega)
  rw [this]

theorem wpList_load_part {w : World} {ops : Array Oper} {rest : List Oper} {o : Oper} {a : Act} {Q : Exit → Act → World → Prop} (hgd : o.guard = none) (ty : TypeId) (x : Operand) (ho : o.op = .load ty x)
    (g off : Nat) (hx : a.eval x = .pointer (some ⟨g, off, none⟩)) {t : TypeId} {cur : Array Value} {fr : Nat × Nat} {n : Nat} {d : TypeDesc} (hg : w.heap[g]? = some (.cells cur t fr)) (hu : P.underlying ty = some d)
    (hd : d.isRow = true) (hi : (P.info? ty).map (·.size) = some n) (hfit : off + n ≤ cur.size) (cs : Array Value) (hv : cur.extract off (off + n) = cs)
    (h : wpList P ops Q rest (a.put o.dst (.agg cs)) w) : wpList P ops Q (o :: rest) a w :=
  wpList_plain hgd fun _ hK => by
    unfold Oper.wp execOp
    simp only [ho, hx, Instr.loadAt, Instr.sureAddr, Sem.run_bind, Sem.run_pure, Result.andThen_ok, run_load_part w hg hu hd hi hfit, hv]
    exact hK _ _ h

theorem run_store_part (w : World) {g off : Nat} {ty t : TypeId} {cur cells : Array Value} (hg : w.heap[g]? = some (.cells cur t (0, 0))) (hi : (P.info? ty).map (·.size) = some cells.size) (hfit : off + cells.size ≤ cur.size)
    (h1 : ∀ v ∈ cells.toList, v.oneCell' = true) : (storeVar ty ⟨g, off, none⟩ (.agg cells)).run P w = .ok () (w.setRow g (splice cur.toList off cells.toList).toArray) := by
  have := run_storeCells_at (P := P) g off t cells.toList 0 cur w hg (by simp; omega) h1
  cases hq : P.info? ty with
  | none => simp [hq] at hi
  | some i =>
    have hs : cells.size = i.size := by simp [hq] at hi; omega
    simp [storeVar, sizeOf, typeInfo, hq, Value.cells, hs, this, splice]

theorem wpList_store_part {w : World} {ops : Array Oper} {rest : List Oper} {o : Oper} {a : Act} {Q : Exit → Act → World → Prop} (hgd : o.guard = none) (ty : TypeId) (x y : Operand) (ho : o.op = .store ty x y)
    (g off : Nat) (cells : Array Value) (hx : a.eval x = .pointer (some ⟨g, off, none⟩)) (hy : a.eval y = .agg cells) {t : TypeId} {cur : Array Value} (hg : w.heap[g]? = some (.cells cur t (0, 0)))
    (hi : (P.info? ty).map (·.size) = some cells.size) (hfit : off + cells.size ≤ cur.size) (h1 : ∀ v ∈ cells.toList, v.oneCell' = true)
    (new : Array Value) (hn : (splice cur.toList off cells.toList).toArray = new) (h : wpList P ops Q rest (a.put o.dst undef) (w.setRow g new)) : wpList P ops Q (o :: rest) a w :=
  wpList_plain hgd fun _ hK => by
    unfold Oper.wp execOp
    simp only [ho, hx, hy, Instr.storeAt, Instr.sureAddr, Sem.run_bind, Sem.run_pure, Result.andThen_ok, run_store_part w hg hi hfit h1, hn]
    exact hK _ _ h
end

/-! whole blocks behind the walk's own writings -/
theorem row_cell {w : World} {g : Nat} {cs : Array Value} {t : TypeId} {fr : Nat × Nat} (hg : w.heap[g]? = some (.cells cs t fr)) {i : Nat} {v : Value} (h : cs[i]? = some v) : w.cell? ⟨g, i, none⟩ = some v := by
  rw [cell_of_row w g i cs t fr hg, h]
theorem row_news {w : World} {g : Nat} {cs : Array Value} {t : TypeId} {fr : Nat × Nat} (hg : w.heap[g]? = some (.cells cs t fr)) : ∀ j u, cs.toList[j]? = some u → w.cell? ((⟨g, 0, none⟩ : Addr).add j) = some u := fun j u hu => by
  have hadd : (⟨g, 0, none⟩ : Addr).add j = ⟨g, j, none⟩ := by unfold Addr.add; split <;> simp_all
  rw [hadd, cell_of_row w g j cs t fr hg]
  simpa using hu
theorem row_lt {w : World} {g : Nat} {o : Obj} (hg : w.heap[g]? = some o) : g < w.heap.size := (Array.getElem?_eq_some_iff.1 hg).1
theorem row_free {w : World} {g : Nat} {cs : Array Value} {t : TypeId} (hg : w.heap[g]? = some (.cells cs t (0, 0))) (i : Nat) : w.frozen? ⟨g, i, none⟩ = false := frozen_of_row w g i cs t hg
theorem row_alloc {w : World} {g : Nat} {o : Obj} (hg : w.heap[g]? = some o) (x : Obj) : (w.alloc x).heap[g]? = some o := (heap_alloc_old w x (row_lt hg)).trans hg
theorem row_drew {w : World} {g : Nat} {o : Obj} (hg : w.heap[g]? = some o) : w.drew.heap[g]? = some o := hg
theorem row_drewN {w : World} {g : Nat} {o : Obj} (hg : w.heap[g]? = some o) (n : Nat) : (w.drewN n).heap[g]? = some o := hg
theorem row_set {w : World} {g : Nat} {o : Obj} (hg : w.heap[g]? = some o) {p : Addr} (h : g ≠ p.block) (v : Value) : (w.setCell p v).heap[g]? = some o := (heap_setCell_other w p g v h).trans hg
theorem row_setRow {w : World} {g : Nat} {o : Obj} (hg : w.heap[g]? = some o) {k : Nat} (h : g ≠ k) (cs : Array Value) : (w.setRow k cs).heap[g]? = some o := (setRow_other w k g cs h).trans hg
theorem row_set_same {w : World} {g : Nat} {cs : Array Value} {t : TypeId} (hg : w.heap[g]? = some (.cells cs t (0, 0))) (i : Nat) (v : Value) : (w.setCell ⟨g, i, none⟩ v).heap[g]? = some (.cells (cs.setIfInBounds i v) t (0, 0)) := heap_setCell_same w g i cs t v hg
theorem row_setRow_same {w : World} {g : Nat} {cs : Array Value} {t : TypeId} {fr : Nat × Nat} (hg : w.heap[g]? = some (.cells cs t fr)) (c : Array Value) : (w.setRow g c).heap[g]? = some (.cells c t fr) := setRow_heap w g cs c t fr hg
theorem size_drewN (w : World) (n : Nat) : (w.drewN n).heap.size = w.heap.size := rfl

theorem Ch.drewN {F : Nat → Prop} {a w : World} (h : Ch F a w) (n : Nat) : Ch F a (w.drewN n) :=
  h.trans (G := fun _ => False) ⟨rfl, rfl, rfl, Nat.le_refl _, fun _ _ _ => rfl⟩ (fun _ hf => hf.elim)

/-! what the walk's own rewriting knows of whole blocks -/
def putAt (i : Nat) (v : Value) : Obj → Obj
  | .cells c t fr => .cells (c.setIfInBounds i v) t fr
  | o => o
def putRow (cs : Array Value) : Obj → Obj
  | .cells _ t fr => .cells cs t fr
  | o => o
@[go_sem] theorem putAt_cells (i : Nat) (v : Value) (c : Array Value) (t : TypeId) (fr : Nat × Nat) : putAt i v (.cells c t fr) = .cells (c.setIfInBounds i v) t fr := rfl
@[go_sem] theorem putRow_cells (cs c : Array Value) (t : TypeId) (fr : Nat × Nat) : putRow cs (.cells c t fr) = .cells cs t fr := rfl
@[go_sem] theorem heap_alloc_lt (w : World) (o : Obj) (k : Nat) (h : k < w.heap.size) : (w.alloc o).heap[k]? = w.heap[k]? := heap_alloc_old w o h
@[go_sem] theorem heap_alloc_at (w : World) (o : Obj) (k : Nat) (h : k = w.heap.size) : (w.alloc o).heap[k]? = some o := by subst h; exact heap_alloc_new w o
@[go_sem] theorem heap_setCell_ne (w : World) (p : Addr) (v : Value) (k : Nat) (h : k ≠ p.block) : (w.setCell p v).heap[k]? = w.heap[k]? := heap_setCell_other w p k v h
@[go_sem] theorem heap_setCell_eq (w : World) (k i : Nat) (v : Value) : (w.setCell ⟨k, i, none⟩ v).heap[k]? = (w.heap[k]?).map (putAt i v) := by
  simp only [World.setCell, Array.getElem?_modify, if_true]
  cases w.heap[k]? with
  | none => rfl
  | some o => cases o <;> rfl
@[go_sem] theorem heap_setRow_ne (w : World) (g : Nat) (cs : Array Value) (k : Nat) (h : k ≠ g) : (w.setRow g cs).heap[k]? = w.heap[k]? := setRow_other w g k cs h
@[go_sem] theorem heap_setRow_eq (w : World) (g : Nat) (cs : Array Value) : (w.setRow g cs).heap[g]? = (w.heap[g]?).map (putRow cs) := by
  simp only [World.setRow, Array.getElem?_modify, if_true]
  cases w.heap[g]? with
  | none => rfl
  | some o => cases o <;> rfl
@[go_sem] theorem heap_drewN (w : World) (n : Nat) : (w.drewN n).heap = w.heap := rfl
@[go_sem] theorem heap_drew' (w : World) : w.drew.heap = w.heap := rfl
@[go_sem] theorem cell_setRow_ne (w : World) (g : Nat) (cs : Array Value) (k i : Nat) (h : k ≠ g) : (w.setRow g cs).cell? ⟨k, i, none⟩ = w.cell? ⟨k, i, none⟩ := cell_setRow_other w g cs _ h
@[go_sem] theorem frozen_setRow (w : World) (g : Nat) (cs : Array Value) (a : Addr) : (w.setRow g cs).frozen? a = w.frozen? a := by
  unfold World.frozen?
  by_cases h : a.block = g
  · subst h
    rw [heap_setRow_eq]
    cases w.heap[a.block]? with
    | none => rfl
    | some o => cases o <;> rfl
  · rw [heap_setRow_ne _ _ _ _ h]
@[go_sem] theorem cell_setRow_eq (w : World) (g : Nat) (cs : Array Value) (i : Nat) (h : (w.heap[g]?).map (putRow cs) = some (.cells cs 0 (0, 0)) ∨ (w.cell? ⟨g, 0, none⟩).isSome = true) : (w.setRow g cs).cell? ⟨g, i, none⟩ = cs[i]? := by
  have hs : ∃ c t fr, w.heap[g]? = some (.cells c t fr) := by
    rcases h with h | h
    · cases hg : w.heap[g]? with
      | none => rw [hg] at h; cases h
      | some o => cases o <;> first | exact ⟨_, _, _, rfl⟩ | (rw [hg] at h; simp [putRow] at h)
    · cases hg : w.heap[g]? with
      | none => simp [World.cell?, hg] at h
      | some o => cases o <;> first | exact ⟨_, _, _, rfl⟩ | simp [World.cell?, hg] at h
  obtain ⟨c, t, fr, hg⟩ := hs
  exact cell_setRow_same w g i c cs t fr hg

/-- What a block's row says, cell by cell, for the walk. -/
theorem row4 {w : World} {g : Nat} {c0 c1 c2 c3 : Value} {t : TypeId} (hg : w.heap[g]? = some (.cells #[c0, c1, c2, c3] t (0, 0))) :
    w.cell? ⟨g, 0, none⟩ = some c0 ∧ w.cell? ⟨g, 1, none⟩ = some c1 ∧ w.cell? ⟨g, 2, none⟩ = some c2 ∧ w.cell? ⟨g, 3, none⟩ = some c3 ∧ (∀ i, w.frozen? ⟨g, i, none⟩ = false) ∧ g < w.heap.size :=
  ⟨row_cell hg rfl, row_cell hg rfl, row_cell hg rfl, row_cell hg rfl, fun i => row_free hg i, row_lt hg⟩

section
variable {P : Program}
theorem wpList_build_is {w : World} {ops : Array Oper} {rest : List Oper} {o : Oper} {a : Act} {Q : Exit → Act → World → Prop} (hgd : o.guard = none) (t : TypeId) (parts : Array (Nat × Operand)) (ho : o.op = .build t parts)
    (cells : Array Value) (hf : P.built t (parts.map fun (i, x) => (i, a.eval x)).toList = some cells) (h : wpList P ops Q rest (a.put o.dst (.agg cells)) w) : wpList P ops Q (o :: rest) a w :=
  wpList_build hgd t parts ho (by rw [hf]; rfl) (by rw [hf]; exact h)
theorem wpList_build_none {w : World} {ops : Array Oper} {rest : List Oper} {o : Oper} {a : Act} {Q : Exit → Act → World → Prop} (hgd : o.guard = none) (t : TypeId) (ho : o.op = .build t #[])
    (cells : Array Value) (hf : P.built t [] = some cells) (h : wpList P ops Q rest (a.put o.dst (.agg cells)) w) : wpList P ops Q (o :: rest) a w :=
  wpList_build_is hgd t #[] ho cells (by simpa using hf) h
theorem built_pair {t : TypeId} {it : TypeInfo} {z : Value} {fields : Array Field} {s0 s1 : Nat} (hi : P.info? t = some it) (hz : it.zero = some z) (hu : P.underlying t = some (.struct fields))
    (hp : fields.toList.mapM (fun f => (P.info? f.type).map fun i => (f.offset, i.size)) = some [(0, s0), (s0, s1)]) (hs : z.cells.size = s0 + s1) (v0 v1 : Value) (h0 : v0.cells.size = s0) (h1 : v1.cells.size = s1) :
    P.built t [(0, v0), (1, v1)] = some (v0.cells ++ v1.cells) := by
  unfold Program.built
  rw [hi, hu]
  simp only [hz, hp]
  rw [fill_step (off := 0) (size := s0) rfl h0 (by omega), fill_step (off := s0) (size := s1) rfl h1 (by rw [List.size_toArray, splice_length _ _ _ (by simp; omega)]; simp; omega)]
  simp only [Instr.fill, Option.some.injEq]
  apply Array.ext'
  simp only [splice, List.take_zero, List.nil_append, Nat.zero_add, Array.length_toList, Array.toList_append]
  rw [List.take_append, List.take_of_length_le (by simp; omega), h0]
  simp only [Array.length_toList, h0, Nat.sub_self, List.take_zero, List.append_nil]
  rw [List.drop_append, List.drop_eq_nil_of_le (by simp; omega), List.drop_eq_nil_of_le (by simp; omega)]
  simp
theorem wpList_build_two {w : World} {ops : Array Oper} {rest : List Oper} {o : Oper} {a : Act} {Q : Exit → Act → World → Prop} (hgd : o.guard = none) (t i j : Nat) (x y : Operand) (ho : o.op = .build t #[(i, x), (j, y)])
    (vx vy : Value) (hx : a.eval x = vx) (hy : a.eval y = vy) (cells : Array Value) (hf : P.built t [(i, vx), (j, vy)] = some cells) (h : wpList P ops Q rest (a.put o.dst (.agg cells)) w) : wpList P ops Q (o :: rest) a w :=
  wpList_build_is hgd t #[(i, x), (j, y)] ho cells (by simpa [hx, hy] using hf) h
theorem run_buildSlice_one (w : World) (t e : TypeId) (ie : TypeInfo) (z v : Value) (hu : P.underlying t = some (.slice e)) (hie : P.info? e = some ie) (hz : ie.zero = some z) (hsmall : ie.size ≤ 65536) (hpos : 0 < ie.size) (hv : v.cells.size = ie.size) :
    (Instr.buildSlice t 1 #[(0, v)]).run P w = .ok (.slice (some ⟨w.heap.size, 0, none⟩) 1 1) (w.alloc (.cells v.cells e)) := by
  refine run_buildSlice w t e 1 #[(0, v)] v.cells ie z hu hie hz (by omega) (by omega) ?_
  show Instr.fill _ _ [(0, v)] = _
  rw [fill_step (off := 0) (size := ie.size) (by simp) hv (by simp)]
  simp only [Instr.fill, splice, Option.some.injEq]
  apply Array.ext'
  simp [hv]
theorem wpList_buildSlice_one {w : World} {ops : Array Oper} {rest : List Oper} {o : Oper} {a : Act} {Q : Exit → Act → World → Prop} (hgd : o.guard = none) (t : TypeId) (x : Operand) (ho : o.op = .buildSlice t 1 #[(0, x)])
    (e : TypeId) (ie : TypeInfo) (z v : Value) (hx : a.eval x = v) (hu : P.underlying t = some (.slice e)) (hie : P.info? e = some ie) (hz : ie.zero = some z) (hsmall : ie.size ≤ 65536) (hpos : 0 < ie.size) (hv : v.cells.size = ie.size)
    (h : wpList P ops Q rest (a.put o.dst (.slice (some ⟨w.heap.size, 0, none⟩) 1 1)) (w.alloc (.cells v.cells e))) : wpList P ops Q (o :: rest) a w :=
  wpList_plain hgd fun _ hK => by
    unfold Oper.wp execOp
    have := run_buildSlice_one w t e ie z v hu hie hz hsmall hpos hv
    simp only [ho, List.map_toArray, List.map_cons, List.map_nil, hx, Sem.run_bind, this, Result.andThen_ok]
    exact hK _ _ h
theorem splice_all (l v : List Value) (h : l.length = v.length) : (splice l 0 v).toArray = v.toArray := by
  simp [splice, ← h]
theorem bodyPost_ret_cell {fn : Func} {R : Ending → World → Prop} {a : Act} {w : World} {p u : Tmp} {ty t : TypeId} {g : Nat} {cs : Array Value} {fr : Nat × Nat} {d : TypeDesc} (h : fn.results = #[.cell p ty, .tmp u]) (hp : a.tmps.getD p undef = .pointer (some ⟨g, 0, none⟩))
    (hg : w.heap[g]? = some (.cells cs t fr)) (hu : P.underlying ty = some d) (hd : d.isRow = true) (hi : (P.info? ty).map (·.size) = some cs.size) (hdef : a.defers = []) (hR : R (.returned (.tuple #[.agg cs, a.tmps.getD u undef])) w) : bodyPost P fn R .ret a w := by
  refine bodyPost_ret (v := .tuple #[.agg cs, a.tmps.getD u undef]) ?_ hdef hR
  rw [results_cell_tmp h, hp]
  have := run_load_part (P := P) w (off := 0) hg hu hd hi (by simp)
  simp at this
  simp [asAddr, this]
theorem bodyPost_ret_cell1 {fn : Func} {R : Ending → World → Prop} {a : Act} {w : World} {p : Tmp} {ty t : TypeId} {g : Nat} {cs : Array Value} {fr : Nat × Nat} {d : TypeDesc} (h : fn.results = #[.cell p ty]) (hp : a.tmps.getD p undef = .pointer (some ⟨g, 0, none⟩))
    (hg : w.heap[g]? = some (.cells cs t fr)) (hu : P.underlying ty = some d) (hd : d.isRow = true) (hi : (P.info? ty).map (·.size) = some cs.size) (hdef : a.defers = []) (hR : R (.returned (.agg cs)) w) : bodyPost P fn R .ret a w := by
  refine bodyPost_ret (v := .agg cs) ?_ hdef hR
  have := run_load_part (P := P) w (off := 0) hg hu hd hi (by simp)
  simp at this
  simp only [Array.getD_eq_getD_getElem?] at hp
  simp [results, h, hp, asAddr, this]
/-- append onto an owned row: in its block, or in a new one. -/
theorem run_append_mine (w : World) (t ty e : TypeId) (i : TypeInfo) (z : Value) (size bytes : Nat) (ht : P.underlying t = some (.slice e)) (hi : P.info? e = some i) (hz : i.zero = some z) (hsize : i.size = size) (hby : i.bytes = bytes) (hzs : z.cells.size = size) (hsz : 0 < size)
    (v : Value) (n : Nat) (xs : List Value) (hown : w.ownsRow 0 e size v n xs) (ad : Addr) (m c : Nat) (news : List Value) (hl : news.length = m * size) (hnews : ∀ j u, news[j]? = some u → w.cell? (ad.add j) = some u) (h1 : ∀ u ∈ news, u.oneCell' = true)
    (h63 : n + m ≤ maxLen) (hbytes : (n + m) * bytes ≤ 140737488355328) :
    ∃ v' w', (Builtin.append_ #[t, t] ty #[v, .slice (some ad) m c]).run P w = .ok v' w' ∧ w'.ownsRow 0 e size v' (n + m) (xs ++ news) ∧ w.grownBy w' v.ownBlock ∧ (v'.ownBlock = v.ownBlock ∨ ∀ k, v'.ownBlock = some k → w.heap.size ≤ k) := by
  have weaken : ∀ {w' : World} {v' : Value} {k : Nat} {ys : List Value}, w'.ownsRow w.heap.size e size v' k ys → w'.ownsRow 0 e size v' k ys ∧ ∀ b, v'.ownBlock = some b → w.heap.size ≤ b := fun h => by
    refine ⟨⟨h.1, ?_⟩, fun b hb => (h.lt b hb).1⟩
    rcases h.2 with h' | ⟨g, cap, cur, r1, _, r2⟩
    · exact .inl h'
    · exact .inr ⟨g, cap, cur, r1, Nat.zero_le _, r2⟩
  rcases hown.2 with ⟨rfl, rfl⟩ | ⟨g, cap, cur, rfl, _, hg, hn, hcap, hcur, htake⟩
  · obtain ⟨v', w', hrun, r1, r2, _⟩ := run_append_own (P := P) w w.heap.size t ty e i z size bytes ht hi hz hsize hby hzs hsz (.slice none 0 0) 0 xs (by rw [show xs = [] from List.eq_nil_of_length_eq_zero (by simpa using hown.1)]; exact World.ownsRow_nil ..) ad m c news hl hnews h1 h63 hbytes (Nat.le_refl _)
    exact ⟨v', w', hrun, (weaken r1).1, r2, .inr (weaken r1).2⟩
  · by_cases hroom : n + m ≤ cap
    · have hfit : n * i.size + news.length ≤ cur.size := by
        rw [hl, hcur, hsize, ← Nat.add_mul]
        exact Nat.mul_le_mul_right _ hroom
      have hrun := run_append_room (P := P) w t ty e i ht hi g n cap cur hg ad m c news (by rw [hsize]; exact hl) hnews h1 hroom hfit
      refine ⟨_, _, hrun, owns_mk' (setRow_heap w g cur _ e (0, 0) hg) hroom hcap ?_ ?_, ?_, .inl rfl⟩
      · have : (n * i.size) ≤ cur.size := by omega
        simp only [List.size_toArray, List.length_append, List.length_take, List.length_drop, Array.length_toList, ← hcur]
        omega
      · subst hsize
        have hlt : (cur.toList.take (n * i.size)).length = n * i.size := by rw [List.length_take, Array.length_toList]; omega
        rw [htake, List.append_assoc, List.take_append, List.take_of_length_le (by rw [hown.1, Nat.add_mul]; omega)]
        congr 1
        rw [hown.1, Nat.add_mul, show n * i.size + m * i.size - n * i.size = m * i.size by omega, List.take_append, List.take_of_length_le (by omega)]
        simp [hl]
      · exact ⟨rfl, rfl, rfl, by simp, fun k _ hk => setRow_other w g k _ (by simpa [Value.ownBlock] using hk)⟩
    · obtain ⟨v', w', hrun, r1, r2⟩ := run_append_arg_grows (P := P) w t ty e i z size bytes ht hi hz hsize hby hzs hsz ⟨g, 0, none⟩ n cap xs hown.1 (fun j u hu => hown.cells rfl j u hu) ad m c news hl hnews (by omega) h63 hbytes
      exact ⟨v', w', hrun, (weaken r1).1, ⟨r2.os, r2.tape, r2.output, r2.size, fun k hk _ => r2.block k hk (by simp)⟩, .inr (weaken r1).2⟩

theorem wpList_append_mine {w : World} {ops : Array Oper} {rest : List Oper} {o : Oper} {a : Act} {Q : Exit → Act → World → Prop} (hgd : o.guard = none) (s x : Operand) (t : TypeId)
    (ho : o.op = .call { callee := .builtin .append, args := #[s, x], argTypes := #[t, t] }) (e : TypeId) (i : TypeInfo) (z : Value) (size bytes : Nat) (ht : P.underlying t = some (.slice e)) (hi : P.info? e = some i) (hz : i.zero = some z)
    (hsize : i.size = size) (hby : i.bytes = bytes) (hzs : z.cells.size = size) (hsz : 0 < size) (v : Value) (n : Nat) (xs : List Value) (hs : a.eval s = v) (hown : w.ownsRow 0 e size v n xs)
    (ad : Addr) (m c : Nat) (news : List Value) (hx : a.eval x = .slice (some ad) m c) (hl : news.length = m * size) (hnews : ∀ j u, news[j]? = some u → w.cell? (ad.add j) = some u) (h1 : ∀ u ∈ news, u.oneCell' = true)
    (h63 : n + m ≤ maxLen) (hbytes : (n + m) * bytes ≤ 140737488355328)
    (h : ∀ v' w', w'.ownsRow 0 e size v' (n + m) (xs ++ news) → w.grownBy w' v.ownBlock → (v'.ownBlock = v.ownBlock ∨ ∀ k, v'.ownBlock = some k → w.heap.size ≤ k) → wpList P ops Q rest (a.put o.dst v') w') : wpList P ops Q (o :: rest) a w :=
  wpList_plain hgd fun _ hK => by
    obtain ⟨v', w', hrun, r1, r2, r3⟩ := run_append_mine w t o.type e i z size bytes ht hi hz hsize hby hzs hsz v n xs hown ad m c news hl hnews h1 h63 hbytes
    unfold Oper.wp
    simp [execOp, ho, resolve, invoke, builtin, hs, hx, hrun, Result.andThen]
    exact hK _ _ (h v' w' r1 r2 r3)
/-- A variable of a struct's type: a new block, all zero. -/
theorem wpList_alloc_is {w : World} {ops : Array Oper} {rest : List Oper} {o : Oper} {a : Act} {Q : Exit → Act → World → Prop} (hgd : o.guard = none) (ty : TypeId) (ho : o.op = .alloc ty)
    (z : Value) (hz : (P.info? ty).bind (·.zero) = some z) (h : wpList P ops Q rest (a.put o.dst (.pointer (some ⟨w.heap.size, 0, none⟩))) (w.alloc (.cells z.cells ty))) : wpList P ops Q (o :: rest) a w :=
  wpList_plain hgd fun _ hK => by
    cases hq : P.info? ty with
    | none => simp [hq] at hz
    | some i =>
      have hz' : i.zero = some z := by simpa [hq] using hz
      unfold Oper.wp execOp
      simp [ho, Instr.alloc, zeroValue, typeInfo, hq, hz', newVar, newRow]
      exact hK _ _ h
end

end Go.Proofs.Ytdgdpbmaalcedaa
