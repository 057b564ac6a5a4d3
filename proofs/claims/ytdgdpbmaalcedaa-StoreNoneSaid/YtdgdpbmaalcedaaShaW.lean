/- The contracts of sha: turning a word, the constants, the schedule. -/
import Derived.Test.YtdgdpbmaalcedaaSha
import Derived.Test.YtdgdpbmaalcedaaBytes
import Derived.Test.YtdgdpbmaalcedaaPlan
import Derived.Test.YtdgdpbmaalcedaaProg
import Derived.Deep.QuietTactic
import Derived.BigQuiet
import Derived.StillTailTactics
import Derived.Lib.Hide
import Derived.IntWalk
import Derived.Deep.LoopGhost
namespace Go.Proofs.Ytdgdpbmaalcedaa.ShaW
open Go Go.RowKit Go.Proofs.Ytdgdpbmaalcedaa
set_option maxHeartbeats 800000
set_option linter.unusedVariables false

theorem turn2 (x : UInt32) (w : World) : Calls Try.prog 146 #[wv x, .int .i64 (-2)] w fun e w' => e = .returned (wv (rotr x 2)) ∧ w = w' := by
  have hb : bits .and .u64 (IntKind.u64.wrap (-2)) 31 = 30 := by decide +kernel
  go_enter Try.func146, Try.ntmps146
  go_wp2
  go_ret
  exact ⟨congrArg (fun z => Ending.returned (.int .u32 z)) (rotr_u x 2 1073741824 4 (by omega) (by omega) rfl rfl), rfl⟩
theorem right2 (x : UInt32) (w : World) : Calls Try.prog 134 #[wv x, .int .i64 2] w fun e w' => e = .returned (wv (rotr x 2)) ∧ w = w' := by
  go_enter Try.func134, Try.ntmps134
  go_wp2_with fail
  refine (turn2 x w).mono ?_; rintro e w1 ⟨rfl, rfl⟩
  go_wp2
  go_ret
  exact ⟨rfl, rfl⟩
theorem turn6 (x : UInt32) (w : World) : Calls Try.prog 146 #[wv x, .int .i64 (-6)] w fun e w' => e = .returned (wv (rotr x 6)) ∧ w = w' := by
  have hb : bits .and .u64 (IntKind.u64.wrap (-6)) 31 = 26 := by decide +kernel
  go_enter Try.func146, Try.ntmps146
  go_wp2
  go_ret
  exact ⟨congrArg (fun z => Ending.returned (.int .u32 z)) (rotr_u x 6 67108864 64 (by omega) (by omega) rfl rfl), rfl⟩
theorem right6 (x : UInt32) (w : World) : Calls Try.prog 134 #[wv x, .int .i64 6] w fun e w' => e = .returned (wv (rotr x 6)) ∧ w = w' := by
  go_enter Try.func134, Try.ntmps134
  go_wp2_with fail
  refine (turn6 x w).mono ?_; rintro e w1 ⟨rfl, rfl⟩
  go_wp2
  go_ret
  exact ⟨rfl, rfl⟩
theorem turn7 (x : UInt32) (w : World) : Calls Try.prog 146 #[wv x, .int .i64 (-7)] w fun e w' => e = .returned (wv (rotr x 7)) ∧ w = w' := by
  have hb : bits .and .u64 (IntKind.u64.wrap (-7)) 31 = 25 := by decide +kernel
  go_enter Try.func146, Try.ntmps146
  go_wp2
  go_ret
  exact ⟨congrArg (fun z => Ending.returned (.int .u32 z)) (rotr_u x 7 33554432 128 (by omega) (by omega) rfl rfl), rfl⟩
theorem right7 (x : UInt32) (w : World) : Calls Try.prog 134 #[wv x, .int .i64 7] w fun e w' => e = .returned (wv (rotr x 7)) ∧ w = w' := by
  go_enter Try.func134, Try.ntmps134
  go_wp2_with fail
  refine (turn7 x w).mono ?_; rintro e w1 ⟨rfl, rfl⟩
  go_wp2
  go_ret
  exact ⟨rfl, rfl⟩
theorem turn11 (x : UInt32) (w : World) : Calls Try.prog 146 #[wv x, .int .i64 (-11)] w fun e w' => e = .returned (wv (rotr x 11)) ∧ w = w' := by
  have hb : bits .and .u64 (IntKind.u64.wrap (-11)) 31 = 21 := by decide +kernel
  go_enter Try.func146, Try.ntmps146
  go_wp2
  go_ret
  exact ⟨congrArg (fun z => Ending.returned (.int .u32 z)) (rotr_u x 11 2097152 2048 (by omega) (by omega) rfl rfl), rfl⟩
theorem right11 (x : UInt32) (w : World) : Calls Try.prog 134 #[wv x, .int .i64 11] w fun e w' => e = .returned (wv (rotr x 11)) ∧ w = w' := by
  go_enter Try.func134, Try.ntmps134
  go_wp2_with fail
  refine (turn11 x w).mono ?_; rintro e w1 ⟨rfl, rfl⟩
  go_wp2
  go_ret
  exact ⟨rfl, rfl⟩
theorem turn13 (x : UInt32) (w : World) : Calls Try.prog 146 #[wv x, .int .i64 (-13)] w fun e w' => e = .returned (wv (rotr x 13)) ∧ w = w' := by
  have hb : bits .and .u64 (IntKind.u64.wrap (-13)) 31 = 19 := by decide +kernel
  go_enter Try.func146, Try.ntmps146
  go_wp2
  go_ret
  exact ⟨congrArg (fun z => Ending.returned (.int .u32 z)) (rotr_u x 13 524288 8192 (by omega) (by omega) rfl rfl), rfl⟩
theorem right13 (x : UInt32) (w : World) : Calls Try.prog 134 #[wv x, .int .i64 13] w fun e w' => e = .returned (wv (rotr x 13)) ∧ w = w' := by
  go_enter Try.func134, Try.ntmps134
  go_wp2_with fail
  refine (turn13 x w).mono ?_; rintro e w1 ⟨rfl, rfl⟩
  go_wp2
  go_ret
  exact ⟨rfl, rfl⟩
theorem turn17 (x : UInt32) (w : World) : Calls Try.prog 146 #[wv x, .int .i64 (-17)] w fun e w' => e = .returned (wv (rotr x 17)) ∧ w = w' := by
  have hb : bits .and .u64 (IntKind.u64.wrap (-17)) 31 = 15 := by decide +kernel
  go_enter Try.func146, Try.ntmps146
  go_wp2
  go_ret
  exact ⟨congrArg (fun z => Ending.returned (.int .u32 z)) (rotr_u x 17 32768 131072 (by omega) (by omega) rfl rfl), rfl⟩
theorem right17 (x : UInt32) (w : World) : Calls Try.prog 134 #[wv x, .int .i64 17] w fun e w' => e = .returned (wv (rotr x 17)) ∧ w = w' := by
  go_enter Try.func134, Try.ntmps134
  go_wp2_with fail
  refine (turn17 x w).mono ?_; rintro e w1 ⟨rfl, rfl⟩
  go_wp2
  go_ret
  exact ⟨rfl, rfl⟩
theorem turn18 (x : UInt32) (w : World) : Calls Try.prog 146 #[wv x, .int .i64 (-18)] w fun e w' => e = .returned (wv (rotr x 18)) ∧ w = w' := by
  have hb : bits .and .u64 (IntKind.u64.wrap (-18)) 31 = 14 := by decide +kernel
  go_enter Try.func146, Try.ntmps146
  go_wp2
  go_ret
  exact ⟨congrArg (fun z => Ending.returned (.int .u32 z)) (rotr_u x 18 16384 262144 (by omega) (by omega) rfl rfl), rfl⟩
theorem right18 (x : UInt32) (w : World) : Calls Try.prog 134 #[wv x, .int .i64 18] w fun e w' => e = .returned (wv (rotr x 18)) ∧ w = w' := by
  go_enter Try.func134, Try.ntmps134
  go_wp2_with fail
  refine (turn18 x w).mono ?_; rintro e w1 ⟨rfl, rfl⟩
  go_wp2
  go_ret
  exact ⟨rfl, rfl⟩
theorem turn19 (x : UInt32) (w : World) : Calls Try.prog 146 #[wv x, .int .i64 (-19)] w fun e w' => e = .returned (wv (rotr x 19)) ∧ w = w' := by
  have hb : bits .and .u64 (IntKind.u64.wrap (-19)) 31 = 13 := by decide +kernel
  go_enter Try.func146, Try.ntmps146
  go_wp2
  go_ret
  exact ⟨congrArg (fun z => Ending.returned (.int .u32 z)) (rotr_u x 19 8192 524288 (by omega) (by omega) rfl rfl), rfl⟩
theorem right19 (x : UInt32) (w : World) : Calls Try.prog 134 #[wv x, .int .i64 19] w fun e w' => e = .returned (wv (rotr x 19)) ∧ w = w' := by
  go_enter Try.func134, Try.ntmps134
  go_wp2_with fail
  refine (turn19 x w).mono ?_; rintro e w1 ⟨rfl, rfl⟩
  go_wp2
  go_ret
  exact ⟨rfl, rfl⟩
theorem turn22 (x : UInt32) (w : World) : Calls Try.prog 146 #[wv x, .int .i64 (-22)] w fun e w' => e = .returned (wv (rotr x 22)) ∧ w = w' := by
  have hb : bits .and .u64 (IntKind.u64.wrap (-22)) 31 = 10 := by decide +kernel
  go_enter Try.func146, Try.ntmps146
  go_wp2
  go_ret
  exact ⟨congrArg (fun z => Ending.returned (.int .u32 z)) (rotr_u x 22 1024 4194304 (by omega) (by omega) rfl rfl), rfl⟩
theorem right22 (x : UInt32) (w : World) : Calls Try.prog 134 #[wv x, .int .i64 22] w fun e w' => e = .returned (wv (rotr x 22)) ∧ w = w' := by
  go_enter Try.func134, Try.ntmps134
  go_wp2_with fail
  refine (turn22 x w).mono ?_; rintro e w1 ⟨rfl, rfl⟩
  go_wp2
  go_ret
  exact ⟨rfl, rfl⟩
theorem turn25 (x : UInt32) (w : World) : Calls Try.prog 146 #[wv x, .int .i64 (-25)] w fun e w' => e = .returned (wv (rotr x 25)) ∧ w = w' := by
  have hb : bits .and .u64 (IntKind.u64.wrap (-25)) 31 = 7 := by decide +kernel
  go_enter Try.func146, Try.ntmps146
  go_wp2
  go_ret
  exact ⟨congrArg (fun z => Ending.returned (.int .u32 z)) (rotr_u x 25 128 33554432 (by omega) (by omega) rfl rfl), rfl⟩
theorem right25 (x : UInt32) (w : World) : Calls Try.prog 134 #[wv x, .int .i64 25] w fun e w' => e = .returned (wv (rotr x 25)) ∧ w = w' := by
  go_enter Try.func134, Try.ntmps134
  go_wp2_with fail
  refine (turn25 x w).mono ?_; rintro e w1 ⟨rfl, rfl⟩
  go_wp2
  go_ret
  exact ⟨rfl, rfl⟩

theorem begin_ok (w : World) : Calls Try.prog 123 #[] w fun e w' => e = .returned (.agg (wrow Sha.h0)) ∧ Ch (fun _ => False) w w' := by
  go_enter Try.func123, Try.ntmps123
  go_wp2
  exact bodyPost_ret_cell1 (p := 0) rfl rfl (heap_alloc_new _ _) Try.underlying177 rfl (by kernel_rfl) rfl ⟨rfl, (Ch.refl _ _).alloc _⟩
/-- The zero of an array of words. -/
def zeroW (n : Nat) : Array Value := (List.replicate n (Value.int .u32 0)).toArray
theorem zero64 : (Try.prog.info? 191).bind (·.zero) = some (.agg (zeroW 64)) := by kernel_rfl
theorem size64 : (Try.prog.info? 191).map (·.size) = some 64 := by kernel_rfl
theorem constants_ok (w : World) : Calls Try.prog 133 #[] w fun e w' => e = .returned (.agg (wrow Sha.kc)) ∧ Ch (fun _ => False) w w' := by
  obtain ⟨K, hK⟩ : ∃ K, wrow Sha.kc = K := ⟨_, rfl⟩
  have hs : K.size = 64 := by rw [← hK]; rfl
  have h1 := wrow_one Sha.kc
  rw [hK] at h1 ⊢
  obtain ⟨Z, hZ⟩ : ∃ Z, zeroW 64 = Z := ⟨_, rfl⟩
  have z0 := zero64
  have z1 : Z.size = 64 := by rw [← hZ]; rfl
  rw [hZ] at z0
  have HK := Lib.hid hK
  have HS := Lib.hid hs
  have H1 := Lib.hid h1
  have Z0 := Lib.hid z0
  have Z1 := Lib.hid z1
  clear hK hs h1 z0 z1 hZ
  go_enter Try.func133, Try.ntmps133
  go_wp2_with (first
    | ((with_reducible show wpList _ _ _ (⟨_, .alloc 191, _, _, _, _⟩ :: _) _ _); refine wpList_alloc_is rfl 191 rfl (.agg Z) Z0.out ?_; dsimp only [Value.cells])
    | ((with_reducible show wpList _ _ _ (⟨_, .build 191 _, _, _, _, _⟩ :: _) _ _); refine wpList_build_is rfl 191 _ rfl K (by rw [← HK.out]; kernel_rfl) ?_)
    | ((with_reducible show wpList _ _ _ (⟨_, .store 191 _ _, _, _, _, _⟩ :: _) _ _); refine wpList_store_part rfl 191 _ _ rfl w.heap.size 0 K rfl rfl (heap_alloc_new _ _) (by rw [size64, HS.out]) (by rw [HS.out, Z1.out]; omega) H1.out K (by rw [splice_all _ _ (by rw [Array.length_toList, Array.length_toList, HS.out, Z1.out])]) ?_))
  exact bodyPost_ret_cell1 (p := 0) rfl rfl (row_setRow_same (heap_alloc_new _ _) _) Try.underlying191 rfl (by rw [size64, HS.out]) rfl ⟨rfl, ((Ch.refl _ _).alloc _).setRow (.inr (Nat.le_refl _)) _⟩

/-- The words of a schedule so far, the rest zero. -/
def pad64 (l : List UInt32) : List UInt32 := l ++ List.replicate (64 - l.length) 0
theorem pad64_nil : wrow (pad64 []) = zeroW 64 := by simp [pad64, wrow, zeroW]
theorem pad64_full {l : List UInt32} (h : l.length = 64) : pad64 l = l := by simp [pad64, h]
theorem pad64_length {l : List UInt32} (h : l.length ≤ 64) : (pad64 l).length = 64 := by simp [pad64]; omega
theorem pad64_get {l : List UInt32} {i : Nat} (h : i < l.length) : (wrow (pad64 l))[i]? = some (wv (l.getD i 0)) := by
  have : (List.map wv (l ++ List.replicate (64 - l.length) 0))[i]? = some (wv (l.getD i 0)) := by
    rw [List.getElem?_map, List.getElem?_append_left h]; simp [h]
  simpa [wrow, pad64] using this
theorem pad64_some {l : List UInt32} (h : l.length ≤ 64) {i : Nat} (hi : i < 64) : ∃ v, (wrow (pad64 l))[i]? = some v :=
  ⟨_, Array.getElem?_eq_getElem (by rw [wrow_size, pad64_length h]; exact hi)⟩
theorem pad64_set {l : List UInt32} (h : l.length < 64) (x : UInt32) : (wrow (pad64 l)).setIfInBounds l.length (wv x) = wrow (pad64 (l ++ [x])) := by
  apply Array.ext'
  rw [Array.toList_setIfInBounds]
  simp only [wrow, pad64]
  rw [← List.map_set, List.set_append_right _ _ (Nat.le_refl _), Nat.sub_self]
  obtain ⟨r, hr⟩ : ∃ r, 64 - l.length = r + 1 := ⟨63 - l.length, by omega⟩
  rw [hr, List.replicate_succ, List.set_cons_zero, List.length_append, List.length_singleton, show 64 - (l.length + 1) = r by omega]
  simp


end Go.Proofs.Ytdgdpbmaalcedaa.ShaW
