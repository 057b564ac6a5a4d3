/- The slab, plainly: a thing written over. -/
import Derived.Test.YtdgdpbmaalcedaaSlabM
namespace Go.Proofs.Ytdgdpbmaalcedaa
open Go Go.RowKit
section
variable {P : Program}
/-- A plain one-cell value is stored at a place of a row. -/
theorem wpList_store_cell {w : World} {ops : Array Oper} {rest : List Oper} {o : Oper} {a : Act} {Q : Exit → Act → World → Prop} (hgd : o.guard = none) (ty : TypeId) (x y : Operand) (ho : o.op = .store ty x y)
    (g off : Nat) (v : Value) (hx : a.eval x = .pointer (some ⟨g, off, none⟩)) (hy : a.eval y = v) {t : TypeId} {cur : Array Value} (hg : w.heap[g]? = some (.cells cur t (0, 0))) (hfit : off + 1 ≤ cur.size)
    (hv : v.cells = #[v] ∧ v.oneCell' = true) (hi : (P.info? ty).map (·.size) = some 1) (h : wpList P ops Q rest (a.put o.dst undef) (w.setCell ⟨g, off, none⟩ v)) : wpList P ops Q (o :: rest) a w :=
  wpList_plain hgd fun _ hK => by
    have hc : w.cell? ⟨g, off, none⟩ = some (cur[off]'(by omega)) := row_cell hg (by simp)
    have hr : (storeVar ty ⟨g, off, none⟩ v).run P w = .ok () (w.setCell ⟨g, off, none⟩ v) := by
      have h1 := run_storeCells_at (P := P) g off t [v] 0 cur w hg (by simp; omega) (by simpa using hv.2)
      have h2 := setCell_eq_setRow w g off cur t (0, 0) v hg
      have h3 : (List.take (off + 0) cur.toList ++ [v] ++ List.drop (off + 0 + [v].length) cur.toList).toArray = cur.setIfInBounds off v := by
        apply Array.ext'
        have hlt : off < cur.size := by omega
        simp only [Array.toList_setIfInBounds, List.length_singleton, Nat.add_zero]
        rw [List.set_eq_take_append_cons_drop]
        simp [hlt]
      rw [h3, ← h2] at h1
      cases hq : P.info? ty with
      | none => simp [hq] at hi
      | some i =>
        have hs : i.size = 1 := by simpa [hq] using hi
        simp [storeVar, sizeOf, typeInfo, hq, hv.1, hs, h1]
    unfold Oper.wp execOp
    simp only [ho, hx, hy, Instr.storeAt, Instr.sureAddr, Sem.run_bind, Sem.run_pure, Result.andThen_ok, hr]
    exact hK _ _ h
end
namespace SlabSt
/-- The occupied slots among the first k. -/
def occ {α : Type} (σ : SlabSt α) : Nat → List Nat
  | 0 => []
  | k + 1 => occ σ k ++ (match σ.get? (k + 1) with | none => [] | some _ => [k + 1])
theorem occ_none {α : Type} {σ : SlabSt α} {k : Nat} (h : σ.get? ((k : Int) + 1) = none) : σ.occ (k + 1) = σ.occ k := by
  rw [occ, h]; simp
theorem occ_some {α : Type} {σ : SlabSt α} {k : Nat} {s : α × Nat} (h : σ.get? ((k : Int) + 1) = some s) : σ.occ (k + 1) = σ.occ k ++ [k + 1] := by
  rw [occ, h]
theorem occ_len {α : Type} (σ : SlabSt α) : ∀ k, (σ.occ k).length ≤ k
  | 0 => Nat.le_refl _
  | k + 1 => by
    have := occ_len σ k
    cases h : σ.get? ((k : Int) + 1) with
    | none => rw [occ_none h]; omega
    | some s => rw [occ_some h]; simp; omega
theorem flat_splice_thing {sz : Nat} {l : List (Value × Nat)} (h : ∀ s ∈ l, s.1.cells.size = sz) {i : Nat} {s : Value × Nat} (hi : l[i]? = some s) {v : Value} (hv : v.cells.size = sz) :
    splice (flat l) (i * (sz + 1)) v.cells.toList = flat (l.set i (v, s.2)) := by
  have hlt := (List.getElem?_eq_some_iff.1 hi).1
  have hs : s.1.cells.size = sz := h s (List.mem_of_getElem? hi)
  have ht := flat_take_length h (i := i) (by omega)
  rw [flat_set l i _ hlt, flat_split l i s hi, splice]
  have e1 : List.take (i * (sz + 1)) (flat (List.take i l) ++ (s.1.cells.toList ++ [.int .i64 s.2]) ++ flat (List.drop (i + 1) l)) = flat (List.take i l) := by
    rw [List.append_assoc, List.take_append_of_le_length (by omega), List.take_of_length_le (by omega)]
  have e2 : List.drop (i * (sz + 1) + v.cells.toList.length) (flat (List.take i l) ++ (s.1.cells.toList ++ [.int .i64 s.2]) ++ flat (List.drop (i + 1) l)) = [.int .i64 s.2] ++ flat (List.drop (i + 1) l) := by
    rw [List.append_assoc, List.append_assoc, List.drop_append, List.drop_eq_nil_of_le (by simp [ht]), List.nil_append, ht]
    rw [show i * (sz + 1) + v.cells.toList.length - i * (sz + 1) = sz by simp [hv], List.drop_append, List.drop_eq_nil_of_le (by simp [hs])]
    simp [hs]
  rw [e1, e2]
  simp
end SlabSt
end Go.Proofs.Ytdgdpbmaalcedaa
