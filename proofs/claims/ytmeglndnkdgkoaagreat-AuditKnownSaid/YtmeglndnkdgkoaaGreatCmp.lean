/- path.Compare: two keys compared byte by byte; what it leaves is some blocks of its own. -/
import Derived.Test.YtmeglndnkdgkoaaGreatPathA
import Derived.Test.YtmeglndnkdgkoaaGreatRise
import Derived.Laws.BytesArg
import Derived.Laws.Externs
import Derived.Sort.Grow
namespace Go.Proofs.YtmeglndnkdgkoaaGreat.Path
open Go Go.RowKit Go.Sort Go.Proofs.YtmeglndnkdgkoaaGreat
set_option maxHeartbeats 800000
set_option linter.unusedVariables false

set_option maxRecDepth 20000 in
theorem CompareString_ok (a b : ByteArray) (w : World) : Calls Tryz.prog 236 #[.string a, .string b] w fun e w' => e = .returned (.int .i64 (Lib.compareBytes a.data.toList b.data.toList)) ∧ w = w' := by
  go_enter Tryz.func236, Tryz.ntmps236
  go_wp2
  rw [run_callFunc_extern Tryz.func248 (by kernel_rfl) (by kernel_rfl) (by kernel_rfl) (e := Extern.BytealgCompare.compare) (by kernel_rfl), Lib.run_compareString]
  simp only [Result.andThen]
  rw [Oper.upon_value]
  go_wp2
  go_ret
  exact ⟨rfl, rfl⟩
theorem strCompare_ok (a b : ByteArray) (w : World) : Calls Tryz.prog 212 #[.string a, .string b] w fun e w' => e = .returned (.int .i64 (Lib.compareBytes a.data.toList b.data.toList)) ∧ w = w' := by
  have h := CompareString_ok a b w
  generalize Lib.compareBytes a.data.toList b.data.toList = r at h ⊢
  go_enter Tryz.func212, Tryz.ntmps212
  go_wp2_with fail
  refine h.mono ?_; rintro e w1 ⟨rfl, rfl⟩
  go_wp2
  go_ret
  exact ⟨rfl, rfl⟩
def numsOf (x : List UInt8) : List Int := x.map fun b => (b.toNat : Int)
theorem strOf_nums (x : List UInt8) : (strOfNums (numsOf x)).data.toList = x := by
  rw [strOfNums_data]
  unfold numsOf
  rw [List.map_map]
  conv => rhs; rw [← List.map_id x]
  refine List.map_congr_left fun b _ => ?_
  simp
theorem octCompare_ok {w : World} {g1 g2 c1 c2 : Nat} {t1 t2 : TypeId} {f1 f2 : Nat × Nat} (x y : List UInt8) (hx : w.heap[g1]? = some (.cells (brow x) t1 f1)) (hy : w.heap[g2]? = some (.cells (brow y) t2 f2)) :
    Calls Tryz.prog 198 #[.slice (some ⟨g1, 0, none⟩) x.length c1, .slice (some ⟨g2, 0, none⟩) y.length c2] w fun e w' => e = .returned (.int .i64 (Lib.compareBytes x y)) ∧ w = w' := by
  have get : ∀ (z : List UInt8) (i : Nat), i < z.length → (brow z)[i]? = some (.int .u8 ((numsOf z).getD i 0)) := fun z i hi => by
    rw [brow_get hi]
    simp [numsOf, bv, hi]
  have r1 : (convert 32 9 (.slice (some ⟨g1, 0, none⟩) x.length c1)).run Tryz.prog w = .ok (.string (strOfNums (numsOf x))) w :=
    run_convert_bytes_arg w _ _ Tryz.underlying32 Tryz.underlying5 g1 0 x.length c1 (numsOf x) (by simp [numsOf]) (fun i hi => by rw [Nat.zero_add]; exact row_cell hx (get x i hi)) _ Tryz.underlying9
  have r2 : (convert 32 9 (.slice (some ⟨g2, 0, none⟩) y.length c2)).run Tryz.prog w = .ok (.string (strOfNums (numsOf y))) w :=
    run_convert_bytes_arg w _ _ Tryz.underlying32 Tryz.underlying5 g2 0 y.length c2 (numsOf y) (by simp [numsOf]) (fun i hi => by rw [Nat.zero_add]; exact row_cell hy (get y i hi)) _ Tryz.underlying9
  have h := strCompare_ok (strOfNums (numsOf x)) (strOfNums (numsOf y)) w
  rw [strOf_nums, strOf_nums] at h
  generalize Lib.compareBytes x y = r at h ⊢
  generalize strOfNums (numsOf x) = s1 at r1 h
  generalize strOfNums (numsOf y) = s2 at r2 h
  clear get hx hy
  go_enter Tryz.func198, Tryz.ntmps198
  go_wp2_with fail
  refine h.mono ?_; rintro e w1 ⟨rfl, rfl⟩
  go_wp2
  go_ret
  exact ⟨rfl, rfl⟩
theorem Compare_ok (a b : List UInt8) (ha : a.length = 32) (hb : b.length = 32) (w : World) :
    Calls Tryz.prog 172 #[.agg (brow a), .agg (brow b)] w fun e w' => e = .returned (.int .i64 (Lib.compareBytes a b)) ∧ ∃ q os, w' = grow (w.drewN q) os := by
  obtain ⟨A, hA⟩ : ∃ A, A = brow a := ⟨_, rfl⟩
  obtain ⟨B, hB⟩ : ∃ B, B = brow b := ⟨_, rfl⟩
  have g1 : ((w.alloc (.cells A 31)).alloc (.cells B 31)).drew.heap[w.heap.size]? = some (.cells A 31 (0, 0)) := row_drew (row_alloc (heap_alloc_new _ _) _)
  have g2 : ((w.alloc (.cells A 31)).alloc (.cells B 31)).drew.heap[w.heap.size + 1]? = some (.cells B 31 (0, 0)) := by
    have := heap_alloc_new (w.alloc (.cells A 31)) (.cells B 31)
    exact row_drew (by simpa using this)
  have h := octCompare_ok (c1 := 32) (c2 := 32) a b (by rw [← hA]; exact g1) (by rw [← hB]; exact g2)
  rw [ha, hb] at h
  rw [← hA, ← hB]
  have hs0 : ∀ w0 : World, (Instr.sliceAt 31 (.pointer (some ⟨w.heap.size, 0, none⟩)) none none none).run Tryz.prog w0 = .ok (.slice (some ⟨w.heap.size, 0, none⟩) 32 32) w0 := fun w0 => run_arr_all w0 31 32 (by kernel_rfl) (by kernel_rfl) (by kernel_rfl) _ _
  have hs1 : ∀ w0 : World, (Instr.sliceAt 31 (.pointer (some ⟨w.heap.size + 1, 0, none⟩)) none none none).run Tryz.prog w0 = .ok (.slice (some ⟨w.heap.size + 1, 0, none⟩) 32 32) w0 := fun w0 => run_arr_all w0 31 32 (by kernel_rfl) (by kernel_rfl) (by kernel_rfl) _ _
  generalize Lib.compareBytes a b = r at h ⊢
  have H := Lib.hid h
  clear g1 g2 hA hB h
  go_enter Tryz.func172, Tryz.ntmps172
  go_wp2
  refine wp_region_plan (fun w0 => w0 = ((w.alloc (.cells A 31)).alloc (.cells B 31)).drew) 2 [(0, false), (1, false)] (by kernel_rfl) (by kernel_rfl) rfl ?_
  iterate 2 refine plan_look rfl rfl (fun w0 hS => (by subst hS; go_simp; try rfl)) ?_
  refine plan_end ?_
  simp only [List.drop_succ_cons, List.drop_zero, Act.put, List.setIfInBounds_toArray, List.set_cons_succ, List.set_cons_zero]
  go_wp2_with fail
  refine H.out.mono ?_; rintro e w1 ⟨rfl, rfl⟩
  go_wp2
  refine NoPanic.normal ?_
  go_wp2
  go_ret
  exact ⟨rfl, 1, #[.cells A 31, .cells B 31], by rw [alloc_eq_grow, alloc_eq_grow, grow_grow]; rfl⟩
end Go.Proofs.YtmeglndnkdgkoaaGreat.Path
