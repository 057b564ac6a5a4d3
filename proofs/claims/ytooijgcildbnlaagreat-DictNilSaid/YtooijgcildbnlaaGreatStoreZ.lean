/- The contracts of store.Store where there is no store: nil, or one that nobody made. -/
import Derived.Test.YtooijgcildbnlaaGreatStoreB1
import Derived.Test.YtooijgcildbnlaaGreatStoreI
namespace Go.Proofs.YtooijgcildbnlaaGreat.Store
open Go Go.RowKit Go.Proofs.YtooijgcildbnlaaGreat Go.Proofs.YtooijgcildbnlaaGreat.ShaW Go.Proofs.YtooijgcildbnlaaGreat.Path
set_option maxHeartbeats 1600000
set_option linter.unusedVariables false

/-- No store: nil, or a store that nobody made. -/
def NoStore (w : World) (v : Value) : Prop := v = .pointer none ∨ ∃ s, v = .pointer (some ⟨s, 0, none⟩) ∧ w.heap[s]? = some (.cells #[.pointer none] 165 (0, 0))
theorem NoStore.adds {w w' : World} {v : Value} (h : NoStore w v) (ha : Adds w w') : NoStore w' v := by
  rcases h with h | ⟨s, h, hr⟩
  · exact .inl h
  · exact .inr ⟨s, h, ha.row hr id⟩
theorem none_yes {w : World} {v : Value} (h : NoStore w v) : Calls Tryz.prog 84 #[v] w fun e w' => e = .returned (.bool true) ∧ w = w' := by
  rcases h with rfl | ⟨a, rfl, hr⟩
  · go_enter Tryz.func84, Tryz.ntmps84
    go_wp2
    go_ret
    exact ⟨rfl, rfl⟩
  · have c0 := row_cell hr (i := 0) rfl
    go_enter Tryz.func84, Tryz.ntmps84
    go_wp2
    go_ret
    exact ⟨rfl, rfl⟩
theorem zeroZ : ∃ Z : Array Value, Z = Nd.zero.cells ∧ ((Tryz.prog.info? 159).bind (·.zero) = some (.agg Z) ∧ Z.size = 103 ∧ (∀ v ∈ Z.toList, v.oneCell' = true) ∧ Tryz.prog.built 159 [] = some Z) := by
  refine ⟨_, rfl, zeroN, rfl, Nd.cells_one Nd.zero_ok, by kernel_rfl⟩

set_option maxRecDepth 100000 in
theorem get_z {w : World} {v : Value} (h : NoStore w v) (n : Int) :
    Calls Tryz.prog 85 #[v, .int .i64 n] w fun e w' => e = .returned (.tuple #[.agg Nd.zero.cells, .bool false]) ∧ Adds w w' := by
  obtain ⟨Z, hZ, hz⟩ := zeroZ
  rw [← hZ]
  have HN := Lib.hid (none_yes (h.adds ((Ch.refl _ _).alloc (.cells Z 159))))
  have HZ := Lib.hid hz
  clear h hZ hz
  go_enter Tryz.func85, Tryz.ntmps85
  go_wp2_with (first
    | ((with_reducible show wpList _ _ _ (⟨_, .alloc 159, _, _, _, _⟩ :: _) _ _); refine wpList_alloc_is rfl 159 rfl (.agg Z) HZ.out.1 ?_; dsimp only [Value.cells]; try simp only [World.size_alloc]))
  refine HN.out.mono ?_; rintro e w1 ⟨rfl, rfl⟩
  go_wp2_with (first
    | ((with_reducible show wpList _ _ _ (⟨_, .build 159 _, _, _, _, _⟩ :: _) _ _); refine wpList_build_none rfl 159 rfl Z HZ.out.2.2.2 ?_)
    | ((with_reducible show wpList _ _ _ (⟨_, .store 159 (.tmp 4) _, _, _, _, _⟩ :: _) _ _); refine wpList_store_part rfl 159 _ _ rfl w.heap.size 0 Z rfl rfl (heap_alloc_new _ _) (by rw [sizeN, HZ.out.2.1]) (by omega) HZ.out.2.2.1 Z (by rw [splice_all _ _ rfl]) ?_))
  exact bodyPost_ret_cell (p := 4) (u := 5) rfl rfl (row_setRow_same (heap_alloc_new _ _) _) Tryz.underlying159 rfl (by rw [sizeN, HZ.out.2.1]) rfl ⟨rfl, ((Ch.refl _ _).alloc _).setRow (.inr (Nat.le_refl _)) _⟩

theorem Inner_z {w : World} {v : Value} (h : NoStore w v) (d l r : Int) : Calls Tryz.prog 176 #[v, .int .i64 d, .int .i64 l, .int .i64 r] w fun e w' => e = .returned (.tuple #[.int .i64 0, .int .i64 1]) ∧ w = w' := by
  have H := Lib.hid (none_yes h)
  clear h
  go_enter Tryz.func176, Tryz.ntmps176
  go_wp2_with fail
  refine H.out.mono ?_; rintro e w1 ⟨rfl, rfl⟩
  go_wp2
  go_ret2
  exact ⟨rfl, rfl⟩
theorem Drop_z {w : World} {v : Value} (h : NoStore w v) (n : Int) : Calls Tryz.prog 23 #[v, .int .i64 n] w fun e w' => e = .returned (.tuple #[.int .i64 0, .int .i64 1]) ∧ w = w' := by
  have H := Lib.hid (none_yes h)
  clear h
  go_enter Tryz.func23, Tryz.ntmps23
  go_wp2_with fail
  refine H.out.mono ?_; rintro e w1 ⟨rfl, rfl⟩
  go_wp2
  go_ret2
  exact ⟨rfl, rfl⟩
theorem Hold_z {w : World} {v : Value} (h : NoStore w v) (n : Int) : Calls Tryz.prog 119 #[v, .int .i64 n] w fun e w' => e = .returned (.int .i64 1) ∧ w = w' := by
  have H := Lib.hid (none_yes h)
  clear h
  go_enter Tryz.func119, Tryz.ntmps119
  go_wp2_with fail
  refine H.out.mono ?_; rintro e w1 ⟨rfl, rfl⟩
  go_wp2
  go_ret
  exact ⟨rfl, rfl⟩
theorem Root_z {w : World} {v : Value} (h : NoStore w v) (n : Int) : Calls Tryz.prog 80 #[v, .int .i64 n] w fun e w' => e = .returned (.int .i64 1) ∧ w = w' := by
  have H := Lib.hid (none_yes h)
  clear h
  go_enter Tryz.func80, Tryz.ntmps80
  go_wp2_with fail
  refine H.out.mono ?_; rintro e w1 ⟨rfl, rfl⟩
  go_wp2
  go_ret
  exact ⟨rfl, rfl⟩
theorem Count_z {w : World} {v : Value} (h : NoStore w v) (n : Int) : Calls Tryz.prog 94 #[v, .int .i64 n] w fun e w' => e = .returned (.int .i64 0) ∧ w = w' := by
  have H := Lib.hid (none_yes h)
  clear h
  go_enter Tryz.func94, Tryz.ntmps94
  go_wp2_with fail
  refine H.out.mono ?_; rintro e w1 ⟨rfl, rfl⟩
  go_wp2
  go_ret
  exact ⟨rfl, rfl⟩
theorem Occupied_z {w : World} {v : Value} (h : NoStore w v) : Calls Tryz.prog 63 #[v] w fun e w' => e = .returned (.int .i64 0) ∧ w = w' := by
  have H := Lib.hid (none_yes h)
  clear h
  go_enter Tryz.func63, Tryz.ntmps63
  go_wp2_with fail
  refine H.out.mono ?_; rintro e w1 ⟨rfl, rfl⟩
  go_wp2
  go_ret
  exact ⟨rfl, rfl⟩
theorem Room_z {w : World} {v : Value} (h : NoStore w v) : Calls Tryz.prog 122 #[v] w fun e w' => e = .returned (.int .i64 0) ∧ w = w' := by
  have H := Lib.hid (none_yes h)
  clear h
  go_enter Tryz.func122, Tryz.ntmps122
  go_wp2_with fail
  refine H.out.mono ?_; rintro e w1 ⟨rfl, rfl⟩
  go_wp2
  go_ret
  exact ⟨rfl, rfl⟩
theorem Handles_z {w : World} {v : Value} (h : NoStore w v) : Calls Tryz.prog 93 #[v] w fun e w' => e = .returned (.slice none 0 0) ∧ w = w' := by
  have H := Lib.hid (none_yes h)
  clear h
  go_enter Tryz.func93, Tryz.ntmps93
  go_wp2_with fail
  refine H.out.mono ?_; rintro e w1 ⟨rfl, rfl⟩
  go_wp2
  go_ret
  exact ⟨rfl, rfl⟩
theorem Leaf_z {w : World} {v : Value} (h : NoStore w v) (K : Array Value) (ao : Option Addr) (len cap : Nat) : Calls Tryz.prog 174 #[v, .agg K, .slice ao len cap] w fun e w' => e = .returned (.tuple #[.int .i64 0, .int .i64 1]) ∧ Adds w w' := by
  have H := Lib.hid (none_yes (h.adds ((Ch.refl _ _).alloc (.cells K 24))))
  clear h
  go_enter Tryz.func174, Tryz.ntmps174
  go_wp2_with fail
  refine H.out.mono ?_; rintro e w1 ⟨rfl, rfl⟩
  go_wp2
  go_ret2
  exact ⟨rfl, (Ch.refl _ _).alloc _⟩
theorem Kind_z {w : World} {v : Value} (h : NoStore w v) (n : Int) : Calls Tryz.prog 155 #[v, .int .i64 n] w fun e w' => e = .returned (.int .u8 0) ∧ Adds w w' := by
  obtain ⟨Z, hZ, hz⟩ := zeroZ
  have hg := get_z h n
  rw [← hZ] at hg
  have k0 : Z[32]? = some (.int .u8 0) := by rw [hZ]; rfl
  have HG := Lib.hid hg
  have HZ := Lib.hid hz
  have HN := Lib.hid (And.intro hz.2.1 hz.2.2.1)
  clear h hg hZ hz
  go_enter Tryz.func155, Tryz.ntmps155
  go_wp2_with fail
  refine HG.out.mono ?_; rintro e w1 ⟨rfl, hc1⟩
  have c0 := row_cell (row_setRow_same (heap_alloc_new w1 (.cells Z 159)) Z) k0
  have C1 := Lib.hid hc1
  clear hc1 k0
  go_wp2_with (first
    | ((with_reducible show wpList _ _ _ (⟨_, .alloc 159, _, _, _, _⟩ :: _) _ _); refine wpList_alloc_is rfl 159 rfl (.agg Z) HZ.out.1 ?_; dsimp only [Value.cells]; try simp only [World.size_alloc])
    | ((with_reducible show wpList _ _ _ (⟨_, .store 159 _ _, _, _, _, _⟩ :: _) _ _); refine wpList_store_part rfl 159 _ _ rfl w1.heap.size 0 Z rfl rfl (heap_alloc_new _ _) (by rw [sizeN, HN.out.1]) (by omega) HN.out.2 Z (by rw [splice_all _ _ rfl]) ?_))
  go_ret
  exact ⟨rfl, ((C1.out.alloc _).setRow (.inr C1.out.size) _)⟩
theorem Size_z {w : World} {v : Value} (h : NoStore w v) (n : Int) : Calls Tryz.prog 99 #[v, .int .i64 n] w fun e w' => e = .returned (.int .i64 0) ∧ Adds w w' := by
  obtain ⟨Z, hZ, hz⟩ := zeroZ
  have hg := get_z h n
  rw [← hZ] at hg
  have k0 : Z[101]? = some (.int .i64 0) := by rw [hZ]; rfl
  have HG := Lib.hid hg
  have HZ := Lib.hid hz
  have HN := Lib.hid (And.intro hz.2.1 hz.2.2.1)
  clear h hg hZ hz
  go_enter Tryz.func99, Tryz.ntmps99
  go_wp2_with fail
  refine HG.out.mono ?_; rintro e w1 ⟨rfl, hc1⟩
  have c0 := row_cell (row_setRow_same (heap_alloc_new w1 (.cells Z 159)) Z) k0
  have C1 := Lib.hid hc1
  clear hc1 k0
  go_wp2_with (first
    | ((with_reducible show wpList _ _ _ (⟨_, .alloc 159, _, _, _, _⟩ :: _) _ _); refine wpList_alloc_is rfl 159 rfl (.agg Z) HZ.out.1 ?_; dsimp only [Value.cells]; try simp only [World.size_alloc])
    | ((with_reducible show wpList _ _ _ (⟨_, .store 159 _ _, _, _, _, _⟩ :: _) _ _); refine wpList_store_part rfl 159 _ _ rfl w1.heap.size 0 Z rfl rfl (heap_alloc_new _ _) (by rw [sizeN, HN.out.1]) (by omega) HN.out.2 Z (by rw [splice_all _ _ rfl]) ?_))
  go_ret
  exact ⟨rfl, ((C1.out.alloc _).setRow (.inr C1.out.size) _)⟩
theorem Held_z {w : World} {v : Value} (h : NoStore w v) (n : Int) : Calls Tryz.prog 229 #[v, .int .i64 n] w fun e w' => e = .returned (.int .i64 0) ∧ Adds w w' := by
  obtain ⟨Z, hZ, hz⟩ := zeroZ
  have hg := get_z h n
  rw [← hZ] at hg
  have k0 : Z[102]? = some (.int .i64 0) := by rw [hZ]; rfl
  have HG := Lib.hid hg
  have HZ := Lib.hid hz
  have HN := Lib.hid (And.intro hz.2.1 hz.2.2.1)
  clear h hg hZ hz
  go_enter Tryz.func229, Tryz.ntmps229
  go_wp2_with fail
  refine HG.out.mono ?_; rintro e w1 ⟨rfl, hc1⟩
  have c0 := row_cell (row_setRow_same (heap_alloc_new w1 (.cells Z 159)) Z) k0
  have C1 := Lib.hid hc1
  clear hc1 k0
  go_wp2_with (first
    | ((with_reducible show wpList _ _ _ (⟨_, .alloc 159, _, _, _, _⟩ :: _) _ _); refine wpList_alloc_is rfl 159 rfl (.agg Z) HZ.out.1 ?_; dsimp only [Value.cells]; try simp only [World.size_alloc])
    | ((with_reducible show wpList _ _ _ (⟨_, .store 159 _ _, _, _, _, _⟩ :: _) _ _); refine wpList_store_part rfl 159 _ _ rfl w1.heap.size 0 Z rfl rfl (heap_alloc_new _ _) (by rw [sizeN, HN.out.1]) (by omega) HN.out.2 Z (by rw [splice_all _ _ rfl]) ?_))
  go_ret
  exact ⟨rfl, ((C1.out.alloc _).setRow (.inr C1.out.size) _)⟩
theorem Has_z {w : World} {v : Value} (h : NoStore w v) (n : Int) : Calls Tryz.prog 242 #[v, .int .i64 n] w fun e w' => e = .returned (.bool false) ∧ Adds w w' := by
  obtain ⟨Z, hZ, hz⟩ := zeroZ
  have hg := get_z h n
  rw [← hZ] at hg
  have HG := Lib.hid hg
  have HZ := Lib.hid hz
  have HN := Lib.hid (And.intro hz.2.1 hz.2.2.1)
  clear h hg hZ hz
  go_enter Tryz.func242, Tryz.ntmps242
  go_wp2_with fail
  refine HG.out.mono ?_; rintro e w1 ⟨rfl, hc1⟩
  have C1 := Lib.hid hc1
  clear hc1
  go_wp2_with (first
    | ((with_reducible show wpList _ _ _ (⟨_, .alloc 159, _, _, _, _⟩ :: _) _ _); refine wpList_alloc_is rfl 159 rfl (.agg Z) HZ.out.1 ?_; dsimp only [Value.cells]; try simp only [World.size_alloc])
    | ((with_reducible show wpList _ _ _ (⟨_, .store 159 _ _, _, _, _, _⟩ :: _) _ _); refine wpList_store_part rfl 159 _ _ rfl w1.heap.size 0 Z rfl rfl (heap_alloc_new _ _) (by rw [sizeN, HN.out.1]) (by omega) HN.out.2 Z (by rw [splice_all _ _ rfl]) ?_))
  go_ret
  exact ⟨rfl, ((C1.out.alloc _).setRow (.inr C1.out.size) _)⟩
theorem Sides_z {w : World} {v : Value} (h : NoStore w v) (n : Int) : Calls Tryz.prog 156 #[v, .int .i64 n] w fun e w' => e = .returned (.tuple #[.int .i64 0, .int .i64 0]) ∧ Adds w w' := by
  obtain ⟨Z, hZ, hz⟩ := zeroZ
  have hg := get_z h n
  rw [← hZ] at hg
  have k0 : Z[99]? = some (.int .i64 0) := by rw [hZ]; rfl
  have k1 : Z[100]? = some (.int .i64 0) := by rw [hZ]; rfl
  have HG := Lib.hid hg
  have HZ := Lib.hid hz
  have HN := Lib.hid (And.intro hz.2.1 hz.2.2.1)
  clear h hg hZ hz
  go_enter Tryz.func156, Tryz.ntmps156
  go_wp2_with fail
  refine HG.out.mono ?_; rintro e w1 ⟨rfl, hc1⟩
  have c0 := row_cell (row_setRow_same (heap_alloc_new w1 (.cells Z 159)) Z) k0
  have c1 := row_cell (row_setRow_same (heap_alloc_new w1 (.cells Z 159)) Z) k1
  have C1 := Lib.hid hc1
  clear hc1 k0 k1
  go_wp2_with (first
    | ((with_reducible show wpList _ _ _ (⟨_, .alloc 159, _, _, _, _⟩ :: _) _ _); refine wpList_alloc_is rfl 159 rfl (.agg Z) HZ.out.1 ?_; dsimp only [Value.cells]; try simp only [World.size_alloc])
    | ((with_reducible show wpList _ _ _ (⟨_, .store 159 _ _, _, _, _, _⟩ :: _) _ _); refine wpList_store_part rfl 159 _ _ rfl w1.heap.size 0 Z rfl rfl (heap_alloc_new _ _) (by rw [sizeN, HN.out.1]) (by omega) HN.out.2 Z (by rw [splice_all _ _ rfl]) ?_))
  go_quiet (fail)
  go_wp2
  go_ret2
  exact ⟨rfl, ((C1.out.alloc _).setRow (.inr C1.out.size) _).drewN _⟩

set_option maxRecDepth 100000 in
theorem Key_z {w : World} {v : Value} (h : NoStore w v) (n : Int) : Calls Tryz.prog 157 #[v, .int .i64 n] w fun e w' => e = .returned (.agg (brow Nd.z32)) ∧ Adds w w' := by
  obtain ⟨Z, hZ, hz⟩ := zeroZ
  have hg := fun w1 (hc : Adds w w1) => get_z (h.adds hc) n
  rw [← hZ] at hg
  obtain ⟨Y, hY⟩ : ∃ Y, Y = brow Nd.z32 := ⟨_, rfl⟩
  have hzp := zeroP
  rw [show brow (List.replicate 32 0) = Y from hY.symm] at hzp
  have hYs : Y.size = 32 ∧ ∀ v ∈ Y.toList, v.oneCell' = true := by rw [hY]; exact ⟨rfl, brow_one _⟩
  have k0 : Z.extract 34 (34 + 32) = Y := by rw [hZ, hY]; exact Nd.at_key Nd.zero_ok
  rw [← hY]
  have HG := Lib.hid hg
  have HZ := Lib.hid hz
  have HN := Lib.hid (And.intro hz.2.1 hz.2.2.1)
  have HY := Lib.hid (And.intro hzp hYs)
  have HK := Lib.hid k0
  clear h hg hZ hz hY hzp hYs k0
  go_enter Tryz.func157, Tryz.ntmps157
  go_wp2_with (first
    | ((with_reducible show wpList _ _ _ (⟨_, .alloc 24, _, _, _, _⟩ :: _) _ _); refine wpList_alloc_is rfl 24 rfl (.agg Y) HY.out.1 ?_; dsimp only [Value.cells]; try simp only [World.size_alloc]))
  refine (HG.out _ ((Ch.refl _ _).alloc _)).mono ?_; rintro e w1 ⟨rfl, hc1⟩
  have hy1 := hc1.row (heap_alloc_new w (.cells Y 24)) id
  have C1 := Lib.hid (((Ch.refl (fun _ => False) w).alloc (.cells Y 24)).trans hc1 (fun _ h => h.elim))
  have hlt := row_lt hy1
  have HY1 := Lib.hid hy1
  clear hc1 hy1
  go_wp2_with (first
    | ((with_reducible show wpList _ _ _ (⟨_, .alloc 159, _, _, _, _⟩ :: _) _ _); refine wpList_alloc_is rfl 159 rfl (.agg Z) HZ.out.1 ?_; dsimp only [Value.cells]; try simp only [World.size_alloc])
    | ((with_reducible show wpList _ _ _ (⟨_, .store 159 _ _, _, _, _, _⟩ :: _) _ _); refine wpList_store_part rfl 159 _ _ rfl w1.heap.size 0 Z rfl rfl (heap_alloc_new _ _) (by rw [sizeN, HN.out.1]) (by omega) HN.out.2 Z (by rw [splice_all _ _ rfl]) ?_)
    | ((with_reducible show wpList _ _ _ (⟨_, .load 24 _, _, _, _, _⟩ :: _) _ _); refine wpList_load_part rfl 24 _ rfl w1.heap.size 34 rfl (row_setRow_same (heap_alloc_new _ _) _) Tryz.underlying24 rfl sizeP (by rw [HN.out.1]; omega) Y HK.out ?_)
    | ((with_reducible show wpList _ _ _ (⟨_, .store 24 _ _, _, _, _, _⟩ :: _) _ _); refine wpList_store_part rfl 24 _ _ rfl w.heap.size 0 Y rfl rfl (row_setRow (row_alloc HY1.out _) (by omega) _) (by rw [sizeP, HY.out.2.1]) (by omega) HY.out.2.2 Y (by rw [splice_all _ _ rfl]) ?_))
  have hws := C1.out.size
  exact bodyPost_ret_cell1 (p := 4) rfl rfl (row_setRow_same (row_setRow (row_alloc HY1.out _) (by omega) _) _) Tryz.underlying24 rfl (by rw [sizeP, HY.out.2.1]) rfl ⟨rfl, ((C1.out.alloc _).setRow (.inr hws) _).setRow (.inr (Nat.le_refl _)) _⟩

set_option maxRecDepth 100000 in
theorem Digest_z {w : World} {v : Value} (h : NoStore w v) (n : Int) : Calls Tryz.prog 100 #[v, .int .i64 n] w fun e w' => e = .returned (.agg (brow Nd.z32)) ∧ Adds w w' := by
  obtain ⟨Y, hY⟩ : ∃ Y, Y = brow Nd.z32 := ⟨_, rfl⟩
  have hzp := zeroH
  rw [show brow (List.replicate 32 0) = Y from hY.symm] at hzp
  have hYs : Y.size = 32 ∧ ∀ v ∈ Y.toList, v.oneCell' = true := by rw [hY]; exact ⟨rfl, brow_one _⟩
  have hbt : Tryz.prog.built 85 [] = some Y := by rw [hY]; kernel_rfl
  rw [← hY]
  have HN := Lib.hid (none_yes (h.adds ((Ch.refl _ _).alloc (.cells Y 85))))
  have HY := Lib.hid (And.intro hzp (And.intro hYs hbt))
  clear h hY hzp hYs hbt
  go_enter Tryz.func100, Tryz.ntmps100
  go_wp2_with (first
    | ((with_reducible show wpList _ _ _ (⟨_, .alloc 85, _, _, _, _⟩ :: _) _ _); refine wpList_alloc_is rfl 85 rfl (.agg Y) HY.out.1 ?_; dsimp only [Value.cells]; try simp only [World.size_alloc]))
  refine HN.out.mono ?_; rintro e w1 ⟨rfl, rfl⟩
  go_wp2_with (first
    | ((with_reducible show wpList _ _ _ (⟨_, .build 85 _, _, _, _, _⟩ :: _) _ _); refine wpList_build_none rfl 85 rfl Y HY.out.2.2 ?_)
    | ((with_reducible show wpList _ _ _ (⟨_, .store 85 _ _, _, _, _, _⟩ :: _) _ _); refine wpList_store_part rfl 85 _ _ rfl w.heap.size 0 Y rfl rfl (heap_alloc_new _ _) (by rw [sizeH, HY.out.2.1.1]) (by omega) HY.out.2.1.2 Y (by rw [splice_all _ _ rfl]) ?_))
  exact bodyPost_ret_cell1 (p := 4) rfl rfl (row_setRow_same (heap_alloc_new _ _) _) Tryz.underlying85 rfl (by rw [sizeH, HY.out.2.1.1]) rfl ⟨rfl, ((Ch.refl _ _).alloc _).setRow (.inr (Nat.le_refl _)) _⟩

set_option maxRecDepth 100000 in
theorem Value_z {w : World} {v : Value} (h : NoStore w v) (n : Int) : Calls Tryz.prog 158 #[v, .int .i64 n] w fun e w' => (∃ ao cap, e = .returned (.slice ao 0 cap)) ∧ Adds w w' := by
  obtain ⟨Z, hZ, hz⟩ := zeroZ
  have hg := get_z h n
  rw [← hZ] at hg
  have k0 : Z[66]? = some (.slice none 0 0) := by rw [hZ]; rfl
  obtain ⟨i0, hi, hz0, hz1, hz2⟩ := info8
  have HG := Lib.hid hg
  have HZ := Lib.hid hz
  have HN := Lib.hid (And.intro hz.2.1 hz.2.2.1)
  have HI := Lib.hid (And.intro hi (And.intro hz0 (And.intro hz1 hz2)))
  clear h hg hZ hz hi hz0 hz1 hz2
  go_enter Tryz.func158, Tryz.ntmps158
  go_wp2_with fail
  refine HG.out.mono ?_; rintro e w1 ⟨rfl, hc1⟩
  have c0 := row_cell (row_setRow_same (heap_alloc_new w1 (.cells Z 159)) Z) k0
  have C1 := Lib.hid hc1
  clear hc1 k0
  go_wp2_with (first
    | ((with_reducible show wpList _ _ _ (⟨_, .alloc 159, _, _, _, _⟩ :: _) _ _); refine wpList_alloc_is rfl 159 rfl (.agg Z) HZ.out.1 ?_; dsimp only [Value.cells]; try simp only [World.size_alloc])
    | ((with_reducible show wpList _ _ _ (⟨_, .store 159 _ _, _, _, _, _⟩ :: _) _ _); refine wpList_store_part rfl 159 _ _ rfl w1.heap.size 0 Z rfl rfl (heap_alloc_new _ _) (by rw [sizeN, HN.out.1]) (by omega) HN.out.2 Z (by rw [splice_all _ _ rfl]) ?_)
    | (at_builtin; refine wpList_append_copy rfl _ _ 73 rfl 5 i0 Tryz.underlying73 HI.out.1 HI.out.2.1 HI.out.2.2.1 HI.out.2.2.2 rfl _ rfl [] (Bytes.nil _) (by simp) ?_; intro v' w2 hb2 hk2 hc2; obtain ⟨ao2, cap2, rfl, _, _⟩ := hb2.form; have HB2 := Lib.hid hc2; clear hb2 hk2 hc2))
  go_ret
  exact ⟨⟨_, _, rfl⟩, ((C1.out.alloc _).setRow (.inr C1.out.size) _).trans HB2.out (fun _ h => h.elim)⟩

/-- The zero of what the document calls a node. -/
def nodeZ : Array Value := (List.replicate 129 (Value.int .u8 0)).toArray
theorem nodeZ_facts : (Tryz.prog.info? 115).bind (·.zero) = some (.agg nodeZ) ∧ (Tryz.prog.info? 115).map (·.size) = some 129 ∧ Tryz.prog.built 115 [] = some nodeZ := ⟨by kernel_rfl, by kernel_rfl, by kernel_rfl⟩
theorem nodeZ_one : ∀ v ∈ nodeZ.toList, v.oneCell' = true := fun v hv => by
  simp [nodeZ] at hv
  subst hv
  rfl
set_option maxRecDepth 100000 in
theorem Node_z {w : World} {v : Value} (h : NoStore w v) (n : Int) : Calls Tryz.prog 215 #[v, .int .i64 n] w fun e w' => e = .returned (.agg nodeZ) ∧ Adds w w' := by
  obtain ⟨Z, hZ, hz⟩ := zeroZ
  have hg := fun w1 (hc : Adds w w1) => get_z (h.adds hc) n
  rw [← hZ] at hg
  have k0 : Z[32]? = some (.int .u8 0) := by rw [hZ]; rfl
  obtain ⟨Y, hY⟩ : ∃ Y, Y = nodeZ := ⟨_, rfl⟩
  have hzp := nodeZ_facts
  have hY1 := nodeZ_one
  have hYs : nodeZ.size = 129 := rfl
  rw [← hY] at hzp hY1 hYs ⊢
  have HG := Lib.hid hg
  have HZ := Lib.hid hz
  have HN := Lib.hid (And.intro hz.2.1 hz.2.2.1)
  have HY := Lib.hid (And.intro hzp (And.intro hYs hY1))
  clear h hg hZ hz hY hzp hYs hY1
  go_enter Tryz.func215, Tryz.ntmps215
  go_wp2_with (first
    | ((with_reducible show wpList _ _ _ (⟨_, .alloc 115, _, _, _, _⟩ :: _) _ _); refine wpList_alloc_is rfl 115 rfl (.agg Y) HY.out.1.1 ?_; dsimp only [Value.cells]; try simp only [World.size_alloc]))
  refine (HG.out _ ((Ch.refl _ _).alloc _)).mono ?_; rintro e w1 ⟨rfl, hc1⟩
  have hy1 := hc1.row (heap_alloc_new w (.cells Y 115)) id
  have c0 := row_cell (row_setRow_same (heap_alloc_new w1 (.cells Z 159)) Z) k0
  have C1 := Lib.hid (((Ch.refl (fun _ => False) w).alloc (.cells Y 115)).trans hc1 (fun _ h => h.elim))
  have hlt := row_lt hy1
  have HY1 := Lib.hid hy1
  clear hc1 hy1 k0
  go_wp2_with (first
    | ((with_reducible show wpList _ _ _ (⟨_, .alloc 159, _, _, _, _⟩ :: _) _ _); refine wpList_alloc_is rfl 159 rfl (.agg Z) HZ.out.1 ?_; dsimp only [Value.cells]; try simp only [World.size_alloc])
    | ((with_reducible show wpList _ _ _ (⟨_, .store 159 _ _, _, _, _, _⟩ :: _) _ _); refine wpList_store_part rfl 159 _ _ rfl w1.heap.size 0 Z rfl rfl (heap_alloc_new _ _) (by rw [sizeN, HN.out.1]) (by omega) HN.out.2 Z (by rw [splice_all _ _ rfl]) ?_)
    | ((with_reducible show wpList _ _ _ (⟨_, .build 115 _, _, _, _, _⟩ :: _) _ _); refine wpList_build_none rfl 115 rfl Y HY.out.1.2.2 ?_)
    | ((with_reducible show wpList _ _ _ (⟨_, .store 115 _ _, _, _, _, _⟩ :: _) _ _); refine wpList_store_part rfl 115 _ _ rfl w.heap.size 0 Y rfl rfl (row_setRow (row_alloc HY1.out _) (by omega) _) (by rw [HY.out.1.2.1, HY.out.2.1]) (by omega) HY.out.2.2 Y (by rw [splice_all _ _ rfl]) ?_))
  have hws := C1.out.size
  exact bodyPost_ret_cell1 (p := 4) rfl rfl (row_setRow_same (row_setRow (row_alloc HY1.out _) (by omega) _) _) Tryz.underlying115 rfl (by rw [HY.out.1.2.1, HY.out.2.1]) rfl ⟨rfl, ((C1.out.alloc _).setRow (.inr hws) _).setRow (.inr (Nat.le_refl _)) _⟩

end Go.Proofs.YtooijgcildbnlaaGreat.Store
