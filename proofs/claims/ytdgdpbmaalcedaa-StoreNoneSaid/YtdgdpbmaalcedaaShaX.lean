/- The contracts of octet.Put32 and of a sha.State: New, Sum. -/
import Derived.Test.YtdgdpbmaalcedaaShaV
namespace Go.Proofs.Ytdgdpbmaalcedaa.ShaW
open Go Go.RowKit Go.Proofs.Ytdgdpbmaalcedaa
set_option maxHeartbeats 3200000
set_option linter.unusedVariables false

theorem byte24 (x : UInt32) : ((x.toNat : Int) / (16777216 : Int)) % (256 : Int) = ((x >>> 24).toUInt8.toNat : Int) := by
  simp [UInt32.toNat_shiftRight, Nat.shiftRight_eq_div_pow]
theorem byte24' (x : UInt32) : ((x.toNat : Int) / (16777216 : Int)) = ((x >>> 24).toUInt8.toNat : Int) := by
  have := x.toNat_lt
  rw [← byte24]; omega
theorem byte16 (x : UInt32) : ((x.toNat : Int) / (65536 : Int)) % (256 : Int) = ((x >>> 16).toUInt8.toNat : Int) := by
  simp [UInt32.toNat_shiftRight, Nat.shiftRight_eq_div_pow]
theorem byte8 (x : UInt32) : ((x.toNat : Int) / (256 : Int)) % (256 : Int) = ((x >>> 8).toUInt8.toNat : Int) := by
  simp [UInt32.toNat_shiftRight, Nat.shiftRight_eq_div_pow]
theorem byte0 (x : UInt32) : (x.toNat : Int) % (256 : Int) = (x.toUInt8.toNat : Int) := by
  simp

set_option maxRecDepth 100000 in
theorem Put32_ok (x : UInt32) (w : World) : Calls Try.prog 126 #[.int .i64 (x.toNat : Int)] w fun e w' => e = .returned (.tuple #[.slice (some ⟨w.heap.size, 0, none⟩) 4 4, .int .i64 0]) ∧ w' = w.alloc (.cells (brow (Sha.be4 x)) 5) := by
  have h1 : 0 ≤ (x.toNat : Int) := by omega
  have h2 : (x.toNat : Int) ≤ 4294967295 := by have := x.toNat_lt; omega
  have b24 := byte24' x
  have b16 := byte16 x
  have b8 := byte8 x
  have b0 := byte0 x
  have hB : Sha.be4 x = [(x >>> 24).toUInt8, (x >>> 16).toUInt8, (x >>> 8).toUInt8, x.toUInt8] := rfl
  generalize (x >>> 24).toUInt8 = y3 at b24 hB
  generalize (x >>> 16).toUInt8 = y2 at b16 hB
  generalize (x >>> 8).toUInt8 = y1 at b8 hB
  generalize x.toUInt8 = y0 at b0 hB
  have HB := Lib.hid hB
  clear hB
  generalize x.toNat = n at *
  go_enter Try.func126, Try.ntmps126
  go_wp2
  go_ret2
  refine ⟨rfl, ?_⟩
  rw [HB.out]
  rfl

theorem zeroB64 : (Try.prog.info? 181).bind (·.zero) = some (.agg (.bool false :: ((List.replicate 8 (0 : UInt32)).map wv ++ ((List.replicate 64 (0 : UInt8)).map bv ++ [.int .i64 0, .int .i64 0]))).toArray) := by kernel_rfl
theorem state_size : (Try.prog.info? 181).map (·.size) = some 75 := by kernel_rfl
theorem built_state : Try.prog.built 181 [(0, .bool true), (1, .agg (wrow Sha.h0))] = some (stc Sha.h0 (List.replicate 64 0) 0 0) := by kernel_rfl

theorem New_ok (w : World) : Calls Try.prog 111 #[] w fun e w' => ∃ a, w.heap.size ≤ a ∧ a < w'.heap.size ∧ e = .returned (.pointer (some ⟨a, 0, none⟩)) ∧ Stands w' a [] ∧ Ch (fun _ => False) w w' := by
  have HB := Lib.hid begin_ok
  obtain ⟨K, hK⟩ : ∃ K, wrow Sha.h0 = K := ⟨_, rfl⟩
  have hbt := built_state
  obtain ⟨S, hS⟩ : ∃ S, stc Sha.h0 (List.replicate 64 0) 0 0 = S := ⟨_, rfl⟩
  rw [hK, hS] at hbt
  rw [hK] at HB
  have HS := Lib.hid hS
  have HBT := Lib.hid hbt
  clear hK hbt hS
  go_enter Try.func111, Try.ntmps111
  go_wp2_with fail
  refine (HB.out _).mono ?_; rintro e w1 ⟨rfl, hc1⟩
  go_wp2_with (first
    | ((with_reducible show wpList _ _ _ (⟨_, .build 181 _, _, _, _, _⟩ :: _) _ _); refine wpList_build_two rfl 181 _ _ _ _ rfl (.bool true) (.agg K) rfl rfl S HBT.out ?_))
  go_ret
  have hws := hc1.size
  refine ⟨_, hws, by simp, rfl, ⟨List.replicate 64 0, rfl, rfl, ?_⟩, hc1.alloc _⟩
  unfold StAt
  rw [heap_alloc_new, ← HS.out]
  rfl

end Go.Proofs.Ytdgdpbmaalcedaa.ShaW
