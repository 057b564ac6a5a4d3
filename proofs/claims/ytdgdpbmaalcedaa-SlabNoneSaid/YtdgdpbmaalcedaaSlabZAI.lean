/- 'All' of no slab: a closure over two empty slices. -/
import Derived.Test.YtdgdpbmaalcedaaSlabZI
import Derived.Deep.OwnRows
namespace Go.Proofs.Ytdgdpbmaalcedaa.SlabI
open Go Go.RowKit
set_option maxHeartbeats 400000
set_option linter.unusedVariables false

set_option maxRecDepth 100000 in
theorem All_z {w : World} {v : Value} (h : NoSlab w v) : Calls Try.prog 79 #[v] w fun e w' => e = .returned (.func (.func 104) #[] #[.pointer (some ⟨w.heap.size, 0, none⟩), .pointer (some ⟨w.heap.size + 2, 0, none⟩)]) ∧
    w'.cell? ⟨w.heap.size, 0, none⟩ = some (.slice none 0 0) ∧ Adds w w' := by
  have H := Lib.hid (Slots_z h)
  have hmk : ∀ w : World, (Instr.makeSlice 58 (.int .i64 0) (.int .i64 0)).run Try.prog w = .ok (.slice (some ⟨w.heap.size, 0, none⟩) 0 0) (w.alloc (.cells (madeCells #[.int .i64 0] 0) 3)) := fun w =>
    run_make_row' 58 3 (.int .i64 0) 8 Try.underlying58 (by kernel_rfl) rfl .i64 .i64 0 (by omega) (by omega) w
  clear h
  go_enter Try.func79, Try.ntmps79
  go_wp2_with fail
  refine H.out.mono ?_; rintro e w1 ⟨rfl, rfl⟩
  go_wp2
  clear hmk
  refine wp_loop_rounds 1 ?_
  rw [rounds_succ]
  go_wp2
  go_ret
  refine ⟨by simp, row_cell (row_alloc (row_alloc (heap_alloc_new _ _) _) _) rfl, (((Ch.refl _ _).alloc _).alloc _).alloc _⟩

end Go.Proofs.Ytdgdpbmaalcedaa.SlabI
