/- Slices of two and three things, built of what is at hand. -/
import Derived.Test.YtooijgcildbnlaaGreatLawsA
namespace Go.Proofs.YtooijgcildbnlaaGreat.Store
open Go Go.RowKit Go.Proofs.YtooijgcildbnlaaGreat
set_option linter.unusedVariables false
theorem at_wld {P : Program} {C : Code} {Q : Exit → Act → World → Prop} {a : Act} {w : World} (h : ∀ w0, w0 = w → C.wp P Q a w0) : C.wp P Q a w := h w rfl
theorem at_wls {P : Program} {ops : Array Oper} {Q : Exit → Act → World → Prop} {l : List Oper} {a : Act} {w : World} (h : ∀ w0, w0 = w → wpList P ops Q l a w0) : wpList P ops Q l a w := h w rfl
theorem run_buildS2 {P : Program} (w : World) (t e : TypeId) (ie : TypeInfo) (z v u : Value) (hu : P.underlying t = some (.slice e)) (hie : P.info? e = some ie) (hz : ie.zero = some z) (hsmall : ie.size ≤ 65536) (hpos : 0 < ie.size) (hv : v.cells.size = ie.size) (hu2 : u.cells.size = ie.size) :
    (Instr.buildSlice t 2 #[(0, v), (1, u)]).run P w = .ok (.slice (some ⟨w.heap.size, 0, none⟩) 2 2) (w.alloc (.cells (v.cells ++ u.cells) e)) := by
  refine run_buildSlice w t e 2 #[(0, v), (1, u)] (v.cells ++ u.cells) ie z hu hie hz (by omega) (by omega) ?_
  show Instr.fill _ _ [(0, v), (1, u)] = _
  rw [fill_step (off := 0) (size := ie.size) (by simp) hv (by simp; omega)]
  rw [fill_step (off := ie.size) (size := ie.size) (by simp) hu2 (by simp [splice, hv]; omega)]
  simp only [Instr.fill, splice, Option.some.injEq]
  apply Array.ext'
  simp [hv, hu2]
  omega
theorem wpList_buildS2 {P : Program} {w : World} {ops : Array Oper} {rest : List Oper} {o : Oper} {a : Act} {Q : Exit → Act → World → Prop} (hgd : o.guard = none) (t : TypeId) (x y : Operand) (ho : o.op = .buildSlice t 2 #[(0, x), (1, y)])
    (e : TypeId) (ie : TypeInfo) (z v u : Value) (hx : a.eval x = v) (hy : a.eval y = u) (hu : P.underlying t = some (.slice e)) (hie : P.info? e = some ie) (hz : ie.zero = some z) (hsmall : ie.size ≤ 65536) (hpos : 0 < ie.size) (hv : v.cells.size = ie.size) (hu2 : u.cells.size = ie.size)
    (h : wpList P ops Q rest (a.put o.dst (.slice (some ⟨w.heap.size, 0, none⟩) 2 2)) (w.alloc (.cells (v.cells ++ u.cells) e))) : wpList P ops Q (o :: rest) a w :=
  wpList_plain hgd fun _ hK => by
    unfold Oper.wp execOp
    have := run_buildS2 w t e ie z v u hu hie hz hsmall hpos hv hu2
    simp only [ho, List.map_toArray, List.map_cons, List.map_nil, hx, hy, Sem.run_bind, this, Result.andThen_ok]
    exact hK _ _ h
theorem buildS3_lists {A B C Z : List Value} {n : Nat} (hA : A.length = n) (hB : B.length = n) (hC : C.length = n) (hZ : Z.length = 3 * n) :
    List.take (2 * n) (A ++ (B ++ List.drop (n + n) (A ++ List.drop n Z))) ++ (C ++ List.drop (2 * n + n) (A ++ (B ++ List.drop (n + n) (A ++ List.drop n Z)))) = A ++ (B ++ C) := by
  have e1 : List.drop (n + n) (A ++ List.drop n Z) = List.drop (2 * n) Z := by
    rw [List.drop_append, List.drop_eq_nil_of_le (by omega), hA, List.nil_append, List.drop_drop]
    congr 1
    omega
  rw [e1, ← List.append_assoc A B, List.take_left' (by rw [List.length_append]; omega), List.drop_eq_nil_of_le (by simp only [List.length_append, List.length_drop]; omega), List.append_nil, List.append_assoc]
theorem run_buildS3 {P : Program} (w : World) (t e : TypeId) (ie : TypeInfo) (z v u x : Value) (hu : P.underlying t = some (.slice e)) (hie : P.info? e = some ie) (hz : ie.zero = some z) (hsmall : ie.size ≤ 65536) (hpos : 0 < ie.size) (hv : v.cells.size = ie.size) (hu2 : u.cells.size = ie.size) (hx2 : x.cells.size = ie.size) :
    (Instr.buildSlice t 3 #[(0, v), (1, u), (2, x)]).run P w = .ok (.slice (some ⟨w.heap.size, 0, none⟩) 3 3) (w.alloc (.cells (v.cells ++ u.cells ++ x.cells) e)) := by
  refine run_buildSlice w t e 3 #[(0, v), (1, u), (2, x)] (v.cells ++ u.cells ++ x.cells) ie z hu hie hz (by omega) (by omega) ?_
  show Instr.fill _ _ [(0, v), (1, u), (2, x)] = _
  rw [fill_step (off := 0) (size := ie.size) (by simp) hv (by simp; omega)]
  rw [fill_step (off := ie.size) (size := ie.size) (by simp) hu2 (by simp [splice, hv]; omega)]
  rw [fill_step (off := 2 * ie.size) (size := ie.size) (by simp) hx2 (by simp [splice, hv, hu2]; omega)]
  simp only [Instr.fill, splice, Option.some.injEq]
  apply Array.ext'
  simp [hv, hu2, hx2]
  exact buildS3_lists (by simp [hv]) (by simp [hu2]) (by simp [hx2]) (by simp)
theorem wpList_buildS3 {P : Program} {w : World} {ops : Array Oper} {rest : List Oper} {o : Oper} {a : Act} {Q : Exit → Act → World → Prop} (hgd : o.guard = none) (t : TypeId) (x y q : Operand) (ho : o.op = .buildSlice t 3 #[(0, x), (1, y), (2, q)])
    (e : TypeId) (ie : TypeInfo) (z v u r : Value) (hx : a.eval x = v) (hy : a.eval y = u) (hq : a.eval q = r) (hu : P.underlying t = some (.slice e)) (hie : P.info? e = some ie) (hz : ie.zero = some z) (hsmall : ie.size ≤ 65536) (hpos : 0 < ie.size) (hv : v.cells.size = ie.size) (hu2 : u.cells.size = ie.size) (hr2 : r.cells.size = ie.size)
    (h : wpList P ops Q rest (a.put o.dst (.slice (some ⟨w.heap.size, 0, none⟩) 3 3)) (w.alloc (.cells (v.cells ++ u.cells ++ r.cells) e))) : wpList P ops Q (o :: rest) a w :=
  wpList_plain hgd fun _ hK => by
    unfold Oper.wp execOp
    have := run_buildS3 w t e ie z v u r hu hie hz hsmall hpos hv hu2 hr2
    simp only [ho, List.map_toArray, List.map_cons, List.map_nil, hx, hy, hq, Sem.run_bind, this, Result.andThen_ok]
    exact hK _ _ h

end Go.Proofs.YtooijgcildbnlaaGreat.Store
