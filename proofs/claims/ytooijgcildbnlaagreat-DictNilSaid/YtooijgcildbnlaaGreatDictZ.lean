/- dict: what is no dictionary is answered as such. -/
import Derived.Test.YtooijgcildbnlaaGreatPathO
import Derived.Test.YtooijgcildbnlaaGreatStoreZ
import Derived.Test.YtooijgcildbnlaaGreatBuildS
import Derived.Deep.LoopGhost
import Derived.Deep.CutRange
import Derived.Deep.DeepCutAuto
namespace Go.Proofs.YtooijgcildbnlaaGreat.Store
open Go Go.RowKit Go.Proofs.YtooijgcildbnlaaGreat Go.Proofs.YtooijgcildbnlaaGreat.ShaW Go.Proofs.YtooijgcildbnlaaGreat.Path
set_option maxHeartbeats 1600000
set_option linter.unusedVariables false
set_option maxRecDepth 100000

theorem zeroHs : (Tryz.prog.info? 85).bind (·.zero) = some (.agg (brow (List.replicate 32 0))) := by kernel_rfl
theorem sizeHs : (Tryz.prog.info? 85).map (·.size) = some 32 := by kernel_rfl
theorem builtHs : Tryz.prog.built 85 [] = some (brow (List.replicate 32 0)) := by kernel_rfl
/-- nil, or a dictionary that nobody made. -/
def NoDict (w : World) (v : Value) : Prop := v = .pointer none ∨ ∃ s, v = .pointer (some ⟨s, 0, none⟩) ∧ w.heap[s]? = some (.cells #[.pointer none, .pointer none, .int .i64 0] 97 (0, 0))
theorem NoDict.adds {w w' : World} {v : Value} (h : NoDict w v) (ha : Adds w w') : NoDict w' v := by
  rcases h with rfl | ⟨s, rfl, hc⟩
  · exact .inl rfl
  · exact .inr ⟨s, rfl, ha.row hc id⟩
theorem NoDict.ptr {w : World} {v : Value} (h : NoDict w v) : ∃ p, v = .pointer p := by
  rcases h with rfl | ⟨s, rfl, _⟩
  · exact ⟨_, rfl⟩
  · exact ⟨_, rfl⟩
section
variable {w : World} {v : Value}
set_option maxRecDepth 100000 in
theorem dnone_yes (h : NoDict w v) : Calls Tryz.prog 111 #[v] w fun e w' => e = .returned (.bool true) ∧ w = w' := by
  rcases h with rfl | ⟨s, rfl, hc⟩
  · go_enter Tryz.func111, Tryz.ntmps111
    go_wp2
    go_ret
    exact ⟨rfl, rfl⟩
  · have c1 := row_cell hc (i := 1) rfl
    clear hc
    go_enter Tryz.func111, Tryz.ntmps111
    go_wp2
    go_ret
    exact ⟨rfl, rfl⟩
theorem keyed_z (h : NoDict w v) (K : Value) : Calls Tryz.prog 107 #[v, K] w fun e w' => e = .returned (.tuple #[.agg (brow (List.replicate 32 0)), .int .i64 1]) ∧ Adds w w' := by
  obtain ⟨p, rfl⟩ := h.ptr
  have hn := fun w1 (a : Adds w w1) => dnone_yes (h.adds a)
  have HN := Lib.hid hn
  clear h hn
  go_enter Tryz.func107, Tryz.ntmps107
  go_wp2_with (first
    | fail
    | ((with_reducible show wpList _ _ _ (⟨_, .alloc 24, _, _, _, _⟩ :: _) _ _); refine wpList_alloc_is rfl 24 rfl (.agg (brow (List.replicate 32 0))) zeroP ?_; dsimp only [Value.cells]; try simp only [World.size_alloc]))
  refine (HN.out _ ((Ch.refl _ _).alloc _)).mono ?_; rintro e w1 ⟨rfl, rfl⟩
  go_wp2_with (first
    | fail
    | ((with_reducible show wpList _ _ _ (⟨_, .store 24 _ _, _, _, _, _⟩ :: _) _ _); refine wpList_store_part rfl 24 _ _ rfl w.heap.size 0 (brow (List.replicate 32 0)) rfl rfl (heap_alloc_new _ _) (by rw [sizeP]; rfl) (Nat.le_of_eq (Nat.zero_add _)) (brow_one _) (brow (List.replicate 32 0)) (by rw [splice_all _ _ (by rw [Array.length_toList, Array.length_toList]; rfl)]) ?_))
  exact bodyPost_ret_cell (p := 4) (u := 5) rfl rfl (row_setRow_same (heap_alloc_new _ _) _) Tryz.underlying24 rfl (by rw [sizeP]; rfl) rfl ⟨rfl, ((Ch.refl _ _).alloc _).setRow (.inr (Nat.le_refl _)) _⟩
theorem made_z (h : NoDict w v) : Calls Tryz.prog 105 #[v] w fun e w' => e = .returned (.int .i64 1) ∧ w = w' := by
  obtain ⟨p, rfl⟩ := h.ptr
  have HN := Lib.hid (dnone_yes h)
  clear h
  go_enter Tryz.func105, Tryz.ntmps105
  go_wp2_with fail
  refine HN.out.mono ?_; rintro e w1 ⟨rfl, rfl⟩
  go_wp2
  go_ret
  exact ⟨rfl, rfl⟩
theorem DHandle_z (h : NoDict w v) (S : ByteArray) : Calls Tryz.prog 46 #[v, .string S] w fun e w' => e = .returned (.tuple #[.int .i64 0, .int .i64 1]) ∧ w = w' := by
  obtain ⟨p, rfl⟩ := h.ptr
  have HN := Lib.hid (dnone_yes h)
  clear h
  go_enter Tryz.func46, Tryz.ntmps46
  go_wp2_with fail
  refine HN.out.mono ?_; rintro e w1 ⟨rfl, rfl⟩
  go_wp2
  go_ret2
  exact ⟨rfl, rfl⟩
theorem DRollback_z (h : NoDict w v) (S : ByteArray) : Calls Tryz.prog 43 #[v, .string S] w fun e w' => e = .returned (.int .i64 1) ∧ w = w' := by
  obtain ⟨p, rfl⟩ := h.ptr
  have HN := Lib.hid (made_z h)
  clear h
  go_enter Tryz.func43, Tryz.ntmps43
  go_wp2_with fail
  refine HN.out.mono ?_; rintro e w1 ⟨rfl, rfl⟩
  go_wp2
  go_ret
  exact ⟨rfl, rfl⟩
theorem DPrune_z (h : NoDict w v) (S : ByteArray) : Calls Tryz.prog 35 #[v, .string S] w fun e w' => e = .returned (.int .i64 1) ∧ w = w' := by
  obtain ⟨p, rfl⟩ := h.ptr
  have HN := Lib.hid (made_z h)
  clear h
  go_enter Tryz.func35, Tryz.ntmps35
  go_wp2_with fail
  refine HN.out.mono ?_; rintro e w1 ⟨rfl, rfl⟩
  go_wp2
  go_ret
  exact ⟨rfl, rfl⟩
theorem DNames_z (h : NoDict w v) : Calls Tryz.prog 41 #[v] w fun e w' => e = .returned (.slice none 0 0) ∧ w = w' := by
  obtain ⟨p, rfl⟩ := h.ptr
  have HN := Lib.hid (dnone_yes h)
  clear h
  go_enter Tryz.func41, Tryz.ntmps41
  go_wp2_with fail
  refine HN.out.mono ?_; rintro e w1 ⟨rfl, rfl⟩
  go_wp2
  go_ret
  exact ⟨rfl, rfl⟩
theorem DOccupied_z (h : NoDict w v) : Calls Tryz.prog 48 #[v] w fun e w' => e = .returned (.int .i64 0) ∧ w = w' := by
  obtain ⟨p, rfl⟩ := h.ptr
  have HN := Lib.hid (dnone_yes h)
  clear h
  go_enter Tryz.func48, Tryz.ntmps48
  go_wp2_with fail
  refine HN.out.mono ?_; rintro e w1 ⟨rfl, rfl⟩
  go_wp2
  go_ret
  exact ⟨rfl, rfl⟩
theorem DRoom_z (h : NoDict w v) : Calls Tryz.prog 49 #[v] w fun e w' => e = .returned (.int .i64 0) ∧ w = w' := by
  obtain ⟨p, rfl⟩ := h.ptr
  have HN := Lib.hid (dnone_yes h)
  clear h
  go_enter Tryz.func49, Tryz.ntmps49
  go_wp2_with fail
  refine HN.out.mono ?_; rintro e w1 ⟨rfl, rfl⟩
  go_wp2
  go_ret
  exact ⟨rfl, rfl⟩
theorem DStore_z (h : NoDict w v) : Calls Tryz.prog 50 #[v] w fun e w' => e = .returned (.pointer none) ∧ w = w' := by
  obtain ⟨p, rfl⟩ := h.ptr
  have HN := Lib.hid (dnone_yes h)
  clear h
  go_enter Tryz.func50, Tryz.ntmps50
  go_wp2_with fail
  refine HN.out.mono ?_; rintro e w1 ⟨rfl, rfl⟩
  go_wp2
  go_ret
  exact ⟨rfl, rfl⟩
theorem DBatch_z (h : NoDict w v) (ao : Option Addr) (len cap : Nat) : Calls Tryz.prog 47 #[v, .slice ao len cap] w fun e w' => e = .returned (.int .i64 1) ∧ w = w' := by
  obtain ⟨p, rfl⟩ := h.ptr
  have HN := Lib.hid (dnone_yes h)
  clear h
  go_enter Tryz.func47, Tryz.ntmps47
  go_wp2_with fail
  refine HN.out.mono ?_; rintro e w1 ⟨rfl, rfl⟩
  go_wp2
  go_ret
  exact ⟨rfl, rfl⟩
theorem DLen_z (h : NoDict w v) (S : ByteArray) : Calls Tryz.prog 44 #[v, .string S] w fun e w' => e = .returned (.tuple #[.int .i64 0, .int .i64 1]) ∧ w = w' := by
  obtain ⟨p, rfl⟩ := h.ptr
  have HN := Lib.hid (DHandle_z h S)
  clear h
  go_enter Tryz.func44, Tryz.ntmps44
  go_wp2_with fail
  refine HN.out.mono ?_; rintro e w1 ⟨rfl, rfl⟩
  go_wp2
  go_ret2
  exact ⟨rfl, rfl⟩
theorem DRoot_z (h : NoDict w v) (S : ByteArray) : Calls Tryz.prog 38 #[v, .string S] w fun e w' => e = .returned (.tuple #[.agg (brow (List.replicate 32 0)), .int .i64 1]) ∧ Adds w w' := by
  obtain ⟨p, rfl⟩ := h.ptr
  have hn := fun w1 (a : Adds w w1) => DHandle_z (h.adds a) S
  have HN := Lib.hid hn
  clear h hn
  go_enter Tryz.func38, Tryz.ntmps38
  go_wp2_with (first
    | fail
    | ((with_reducible show wpList _ _ _ (⟨_, .alloc 85, _, _, _, _⟩ :: _) _ _); refine wpList_alloc_is rfl 85 rfl (.agg (brow (List.replicate 32 0))) zeroHs ?_; dsimp only [Value.cells]; try simp only [World.size_alloc]))
  refine (HN.out _ ((Ch.refl _ _).alloc _)).mono ?_; rintro e w1 ⟨rfl, rfl⟩
  go_wp2_with (first
    | fail
    | ((with_reducible show wpList _ _ _ (⟨_, .store 85 _ _, _, _, _, _⟩ :: _) _ _); refine wpList_store_part rfl 85 _ _ rfl w.heap.size 0 (brow (List.replicate 32 0)) rfl rfl (heap_alloc_new _ _) (by rw [sizeHs]; rfl) (Nat.le_of_eq (Nat.zero_add _)) (brow_one _) (brow (List.replicate 32 0)) (by rw [splice_all _ _ (by rw [Array.length_toList, Array.length_toList]; rfl)]) ?_))
  exact bodyPost_ret_cell (p := 4) (u := 5) rfl rfl (row_setRow_same (heap_alloc_new _ _) _) Tryz.underlying85 rfl (by rw [sizeHs]; rfl) rfl ⟨rfl, ((Ch.refl _ _).alloc _).setRow (.inr (Nat.le_refl _)) _⟩
theorem DPut_z (h : NoDict w v) (K V : Value) : Calls Tryz.prog 39 #[v, K, V] w fun e w' => e = .returned (.int .i64 1) ∧ Adds w w' := by
  obtain ⟨p, rfl⟩ := h.ptr
  have hn := keyed_z h K
  obtain ⟨Z, hZ⟩ : ∃ Z, Z = brow (List.replicate 32 0) := ⟨_, rfl⟩
  have hzd := zeroP
  have hZs : Z.size = 32 := by rw [hZ]; rfl
  have hZ1 := brow_one (List.replicate 32 0)
  rw [← hZ] at hzd hZ1 hn
  have HZ := Lib.hid (And.intro hzd (And.intro hZs hZ1))
  have HN := Lib.hid hn
  clear hzd hZs hZ1 hZ h hn
  go_enter Tryz.func39, Tryz.ntmps39
  go_wp2_with fail
  refine HN.out.mono ?_; rintro e w1 ⟨rfl, a1⟩
  have A1 := Lib.hid a1
  clear a1
  go_wp2_with (first
    | fail
    | ((with_reducible show wpList _ _ _ (⟨_, .alloc 24, _, _, _, _⟩ :: _) _ _); refine wpList_alloc_is rfl 24 rfl (.agg Z) HZ.out.1 ?_; dsimp only [Value.cells]; try simp only [World.size_alloc])
    | ((with_reducible show wpList _ _ _ (⟨_, .store 24 _ _, _, _, _, _⟩ :: _) _ _); refine wpList_store_part rfl 24 _ _ rfl w1.heap.size 0 Z rfl rfl (heap_alloc_new _ _) (by rw [sizeP, HZ.out.2.1]) (by rw [HZ.out.2.1]; omega) HZ.out.2.2 Z (by rw [splice_all _ _ rfl]) ?_))
  go_ret
  exact ⟨rfl, (A1.out.alloc _).setRow (.inr A1.out.size) _⟩
theorem DDelete_z (h : NoDict w v) (K : Value) : Calls Tryz.prog 40 #[v, K] w fun e w' => e = .returned (.tuple #[.bool false, .int .i64 1]) ∧ Adds w w' := by
  obtain ⟨p, rfl⟩ := h.ptr
  have hn := keyed_z h K
  obtain ⟨Z, hZ⟩ : ∃ Z, Z = brow (List.replicate 32 0) := ⟨_, rfl⟩
  have hzd := zeroP
  have hZs : Z.size = 32 := by rw [hZ]; rfl
  have hZ1 := brow_one (List.replicate 32 0)
  rw [← hZ] at hzd hZ1 hn
  have HZ := Lib.hid (And.intro hzd (And.intro hZs hZ1))
  have HN := Lib.hid hn
  clear hzd hZs hZ1 hZ h hn
  go_enter Tryz.func40, Tryz.ntmps40
  go_wp2_with fail
  refine HN.out.mono ?_; rintro e w1 ⟨rfl, a1⟩
  have A1 := Lib.hid a1
  clear a1
  go_wp2_with (first
    | fail
    | ((with_reducible show wpList _ _ _ (⟨_, .alloc 24, _, _, _, _⟩ :: _) _ _); refine wpList_alloc_is rfl 24 rfl (.agg Z) HZ.out.1 ?_; dsimp only [Value.cells]; try simp only [World.size_alloc])
    | ((with_reducible show wpList _ _ _ (⟨_, .store 24 _ _, _, _, _, _⟩ :: _) _ _); refine wpList_store_part rfl 24 _ _ rfl w1.heap.size 0 Z rfl rfl (heap_alloc_new _ _) (by rw [sizeP, HZ.out.2.1]) (by rw [HZ.out.2.1]; omega) HZ.out.2.2 Z (by rw [splice_all _ _ rfl]) ?_))
  go_ret2
  exact ⟨rfl, (A1.out.alloc _).setRow (.inr A1.out.size) _⟩
theorem DGet_z (h : NoDict w v) (S : ByteArray) (K : Value) : Calls Tryz.prog 37 #[v, .string S, K] w fun e w' => e = .returned (.tuple #[.slice none 0 0, .bool false, .int .i64 1]) ∧ Adds w w' := by
  obtain ⟨p, rfl⟩ := h.ptr
  have hn := keyed_z h K
  obtain ⟨Z, hZ⟩ : ∃ Z, Z = brow (List.replicate 32 0) := ⟨_, rfl⟩
  have hzd := zeroP
  have hZs : Z.size = 32 := by rw [hZ]; rfl
  have hZ1 := brow_one (List.replicate 32 0)
  rw [← hZ] at hzd hZ1 hn
  have HZ := Lib.hid (And.intro hzd (And.intro hZs hZ1))
  have HN := Lib.hid hn
  clear hzd hZs hZ1 hZ h hn
  go_enter Tryz.func37, Tryz.ntmps37
  go_wp2_with fail
  refine HN.out.mono ?_; rintro e w1 ⟨rfl, a1⟩
  have A1 := Lib.hid a1
  clear a1
  go_wp2_with (first
    | fail
    | ((with_reducible show wpList _ _ _ (⟨_, .alloc 24, _, _, _, _⟩ :: _) _ _); refine wpList_alloc_is rfl 24 rfl (.agg Z) HZ.out.1 ?_; dsimp only [Value.cells]; try simp only [World.size_alloc])
    | ((with_reducible show wpList _ _ _ (⟨_, .store 24 _ _, _, _, _, _⟩ :: _) _ _); refine wpList_store_part rfl 24 _ _ rfl w1.heap.size 0 Z rfl rfl (heap_alloc_new _ _) (by rw [sizeP, HZ.out.2.1]) (by rw [HZ.out.2.1]; omega) HZ.out.2.2 Z (by rw [splice_all _ _ rfl]) ?_))
  go_ret3
  exact ⟨rfl, (A1.out.alloc _).setRow (.inr A1.out.size) _⟩
theorem DSome_z (h : NoDict w v) (S : ByteArray) (K : Value) (most : Int) : Calls Tryz.prog 45 #[v, .string S, K, .int .i64 most] w fun e w' => e = .returned (.tuple #[.slice none 0 0, .int .i64 1]) ∧ Adds w w' := by
  obtain ⟨p, rfl⟩ := h.ptr
  have hn := keyed_z h K
  obtain ⟨Z, hZ⟩ : ∃ Z, Z = brow (List.replicate 32 0) := ⟨_, rfl⟩
  have hzd := zeroP
  have hZs : Z.size = 32 := by rw [hZ]; rfl
  have hZ1 := brow_one (List.replicate 32 0)
  rw [← hZ] at hzd hZ1 hn
  have HZ := Lib.hid (And.intro hzd (And.intro hZs hZ1))
  have HN := Lib.hid hn
  clear hzd hZs hZ1 hZ h hn
  go_enter Tryz.func45, Tryz.ntmps45
  go_wp2_with fail
  refine HN.out.mono ?_; rintro e w1 ⟨rfl, a1⟩
  have A1 := Lib.hid a1
  clear a1
  go_wp2_with (first
    | fail
    | ((with_reducible show wpList _ _ _ (⟨_, .alloc 24, _, _, _, _⟩ :: _) _ _); refine wpList_alloc_is rfl 24 rfl (.agg Z) HZ.out.1 ?_; dsimp only [Value.cells]; try simp only [World.size_alloc])
    | ((with_reducible show wpList _ _ _ (⟨_, .store 24 _ _, _, _, _, _⟩ :: _) _ _); refine wpList_store_part rfl 24 _ _ rfl w1.heap.size 0 Z rfl rfl (heap_alloc_new _ _) (by rw [sizeP, HZ.out.2.1]) (by rw [HZ.out.2.1]; omega) HZ.out.2.2 Z (by rw [splice_all _ _ rfl]) ?_))
  go_ret2
  exact ⟨rfl, (A1.out.alloc _).setRow (.inr A1.out.size) _⟩
theorem run_makeFunc0 (fn : Fn) (first cap : Array Value) (w : World) : (Instr.makeFunc fn first cap).run Tryz.prog w = .ok (.func fn first cap) w := rfl
theorem checked_z {p : Option Addr} (h : NoDict w (.pointer p)) {b : Nat} {F2 F3 : Value} {T : TypeId} (hb : w.heap[b]? = some (.cells #[.func (.func 105) #[.pointer p] #[], F2, F3] T (0, 0))) :
    Calls Tryz.prog 115 #[.slice (some ⟨b, 0, none⟩) 3 3] w fun e w' => e = .returned (.int .i64 1) ∧ w = w' := by
  have HM := Lib.hid (made_z h)
  have c0 := row_cell hb (i := 0) rfl
  clear h hb
  go_enter Tryz.func115, Tryz.ntmps115
  go_wp2_with fail
  go_loopg [8] 3 (fun g s8 wr => s8 = .int .i64 0 ∧ g = 3 ∧ wr = w)
  case atStart => exact ⟨rfl, rfl, rfl⟩
  case round =>
    obtain ⟨rfl, hk, rfl⟩ := hrel
    go_wp2_with fail
    refine HM.out.mono ?_; rintro e w1 ⟨rfl, rfl⟩
    go_wp2
    go_ret
    exact ⟨rfl, rfl⟩
theorem DSnapshot_z (h : NoDict w v) (S : ByteArray) : Calls Tryz.prog 42 #[v, .string S] w fun e w' => e = .returned (.int .i64 1) ∧ Adds w w' := by
  obtain ⟨p, rfl⟩ := h.ptr
  have hc := fun w1 (a : Adds w w1) b F2 F3 T hb => checked_z (h.adds a) (b := b) (F2 := F2) (F3 := F3) (T := T) hb
  have HC := Lib.hid hc
  clear h hc
  have g2 : ∀ o, ((w.alloc (.cells #[.string S] 9)).alloc o).heap[w.heap.size + 1]? = some o := fun o => by
    have := heap_alloc_new (w.alloc (.cells #[.string S] 9)) o
    simpa using this
  have G2 := Lib.hid g2
  clear g2
  have hmf := @run_makeFunc0
  go_enter Tryz.func42, Tryz.ntmps42
  obtain ⟨i0, z0, p1, p2, p3⟩ : ∃ i z, Tryz.prog.info? 189 = some i ∧ i.zero = some z ∧ i.size = 1 := by
    obtain ⟨i, h1, h2, h3, h4⟩ := info_parts (P := Tryz.prog) (e := 189) (z := .nilFunc) (size := 1) (bytes := 8) (by kernel_rfl)
    exact ⟨i, _, h1, h2, h3⟩
  have HI := Lib.hid (And.intro p1 (And.intro p2 p3))
  clear p1 p2 p3
  go_wp2_with (first
    | fail
    | ((with_reducible show wpList _ _ _ (⟨_, .buildSlice 295 _ _, _, _, _, _⟩ :: _) _ _); refine wpList_buildS3 rfl 295 _ _ _ rfl 189 i0 z0 (.func (.func 105) #[.pointer p] #[]) (.func (.func 113) #[] #[.pointer (some ⟨w.heap.size, 0, none⟩)]) (.func (.func 116) #[.pointer p] #[]) rfl rfl rfl Tryz.underlying295 HI.out.1 HI.out.2.1 (by rw [HI.out.2.2]; decide) (by rw [HI.out.2.2]; decide) (by rw [HI.out.2.2]; rfl) (by rw [HI.out.2.2]; rfl) (by rw [HI.out.2.2]; rfl) ?_; simp only [Value.cells, List.append_toArray, List.cons_append, List.nil_append]))
  refine (HC.out _ (((Ch.refl _ _).alloc _).alloc _) _ _ _ _ (G2.out _)).mono ?_; rintro e w1 ⟨rfl, rfl⟩
  go_wp2
  go_ret
  exact ⟨rfl, ((Ch.refl _ _).alloc _).alloc _⟩
end
end Go.Proofs.YtooijgcildbnlaaGreat.Store
