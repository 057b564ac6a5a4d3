/- The slab's contracts where there is no slab: a nil pointer, or one whose room is 0. -/
import Derived.Test.YtdgdpbmaalcedaaSlabI
namespace Go.Proofs.Ytdgdpbmaalcedaa.SlabI
open Go Go.RowKit
set_option maxHeartbeats 400000
set_option linter.unusedVariables false

/-- No slab: nil, or a slab that nobody made. -/
def NoSlab (w : World) (v : Value) : Prop := v = .pointer none ∨ ∃ a, v = .pointer (some ⟨a, 0, none⟩) ∧ w.cell? ⟨a, 2, none⟩ = some (.int .i64 0)

theorem none_yes {w : World} {v : Value} (h : NoSlab w v) : Calls Try.prog 53 #[v] w fun e w' => e = .returned (.bool true) ∧ w = w' := by
  rcases h with rfl | ⟨a, rfl, ha2⟩
  · go_enter Try.func53, Try.ntmps53
    go_wp2
    go_ret
    exact ⟨rfl, rfl⟩
  · go_enter Try.func53, Try.ntmps53
    go_wp2
    go_ret
    exact ⟨rfl, rfl⟩
theorem at_z {w : World} {v : Value} (h : NoSlab w v) (n : Int) : Calls Try.prog 102 #[v, .int .i64 n] w fun e w' => e = .returned (.pointer none) ∧ w = w' := by
  have H := Lib.hid (none_yes h)
  clear h
  go_enter Try.func102, Try.ntmps102
  go_wp2_with fail
  refine H.out.mono ?_; rintro e w1 ⟨rfl, rfl⟩
  go_wp2
  go_ret
  exact ⟨rfl, rfl⟩
theorem Hold_z {w : World} {v : Value} (h : NoSlab w v) (n : Int) : Calls Try.prog 63 #[v, .int .i64 n] w fun e w' => e = .returned (.int .i64 1) ∧ w = w' := by
  have H := Lib.hid (none_yes h)
  clear h
  go_enter Try.func63, Try.ntmps63
  go_wp2_with fail
  refine H.out.mono ?_; rintro e w1 ⟨rfl, rfl⟩
  go_wp2
  go_ret
  exact ⟨rfl, rfl⟩
theorem Len_z {w : World} {v : Value} (h : NoSlab w v) : Calls Try.prog 76 #[v] w fun e w' => e = .returned (.int .i64 0) ∧ w = w' := by
  have H := Lib.hid (none_yes h)
  clear h
  go_enter Try.func76, Try.ntmps76
  go_wp2_with fail
  refine H.out.mono ?_; rintro e w1 ⟨rfl, rfl⟩
  go_wp2
  go_ret
  exact ⟨rfl, rfl⟩
theorem Room_z {w : World} {v : Value} (h : NoSlab w v) : Calls Try.prog 13 #[v] w fun e w' => e = .returned (.int .i64 0) ∧ w = w' := by
  have H := Lib.hid (none_yes h)
  clear h
  go_enter Try.func13, Try.ntmps13
  go_wp2_with fail
  refine H.out.mono ?_; rintro e w1 ⟨rfl, rfl⟩
  go_wp2
  go_ret
  exact ⟨rfl, rfl⟩
theorem Slots_z {w : World} {v : Value} (h : NoSlab w v) : Calls Try.prog 73 #[v] w fun e w' => e = .returned (.slice none 0 0) ∧ w = w' := by
  have H := Lib.hid (none_yes h)
  clear h
  go_enter Try.func73, Try.ntmps73
  go_wp2_with fail
  refine H.out.mono ?_; rintro e w1 ⟨rfl, rfl⟩
  go_wp2
  go_ret
  exact ⟨rfl, rfl⟩
theorem Take_z {w : World} {v : Value} (h : NoSlab w v) (x : Value) : Calls Try.prog 61 #[v, x] w fun e w' => e = .returned (.tuple #[.int .i64 0, .int .i64 1]) ∧ w = w' := by
  have H := Lib.hid (none_yes h)
  clear h
  go_enter Try.func61, Try.ntmps61
  go_wp2_with fail
  refine H.out.mono ?_; rintro e w1 ⟨rfl, rfl⟩
  go_wp2
  go_ret2
  exact ⟨rfl, rfl⟩
theorem Drop_z {w : World} {v : Value} (h : NoSlab w v) (n : Int) : Calls Try.prog 65 #[v, .int .i64 n] w fun e w' => e = .returned (.tuple #[.bool false, .int .i64 1]) ∧ w = w' := by
  have H := Lib.hid (none_yes h)
  clear h
  go_enter Try.func65, Try.ntmps65
  go_wp2_with fail
  refine H.out.mono ?_; rintro e w1 ⟨rfl, rfl⟩
  go_wp2
  go_ret2
  exact ⟨rfl, rfl⟩
theorem Get_z {w : World} {v : Value} (h : NoSlab w v) (n : Int) : Calls Try.prog 67 #[v, .int .i64 n] w fun e w' => e = .returned (.tuple #[.int .i64 0, .int .i64 1]) ∧ w = w' := by
  have H := Lib.hid (none_yes h)
  clear h
  go_enter Try.func67, Try.ntmps67
  go_wp2_with fail
  refine H.out.mono ?_; rintro e w1 ⟨rfl, rfl⟩
  go_wp2
  go_ret2
  exact ⟨rfl, rfl⟩
theorem Set_z {w : World} {v : Value} (h : NoSlab w v) (n : Int) (x : Value) : Calls Try.prog 71 #[v, .int .i64 n, x] w fun e w' => e = .returned (.int .i64 1) ∧ w = w' := by
  have H := Lib.hid (none_yes h)
  clear h
  go_enter Try.func71, Try.ntmps71
  go_wp2_with fail
  refine H.out.mono ?_; rintro e w1 ⟨rfl, rfl⟩
  go_wp2
  go_ret
  exact ⟨rfl, rfl⟩
theorem Count_z {w : World} {v : Value} (h : NoSlab w v) (n : Int) : Calls Try.prog 69 #[v, .int .i64 n] w fun e w' => e = .returned (.int .i64 0) ∧ w = w' := by
  have H := Lib.hid (at_z h n)
  clear h
  go_enter Try.func69, Try.ntmps69
  go_wp2_with fail
  refine H.out.mono ?_; rintro e w1 ⟨rfl, rfl⟩
  go_wp2
  go_ret
  exact ⟨rfl, rfl⟩

end Go.Proofs.Ytdgdpbmaalcedaa.SlabI
