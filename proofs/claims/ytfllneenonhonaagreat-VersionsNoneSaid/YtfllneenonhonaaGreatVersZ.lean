/- versions where there are none: nil, or such as nobody made. -/
import Derived.Test.YtfllneenonhonaaGreatStoreZ
namespace Go.Proofs.YtfllneenonhonaaGreat.Store
open Go Go.RowKit Go.Proofs.YtfllneenonhonaaGreat Go.Proofs.YtfllneenonhonaaGreat.ShaW Go.Proofs.YtfllneenonhonaaGreat.Path
set_option maxHeartbeats 1600000
set_option linter.unusedVariables false

def NoVers (w : World) (v : Value) : Prop := v = .pointer none ∨ ∃ s, v = .pointer (some ⟨s, 0, none⟩) ∧ w.heap[s]? = some (.cells #[.pointer none, .map none] 69 (0, 0))
theorem NoVers.adds {w w' : World} {v : Value} (h : NoVers w v) (ha : Adds w w') : NoVers w' v := by
  rcases h with h | ⟨s, h, hr⟩
  · exact .inl h
  · exact .inr ⟨s, h, ha.row hr id⟩
theorem map_is_nil (w : World) : (binOp .eql 67 (.map none) (.map none)).run Tryz.prog w = .ok (.bool true) w := by kernel_rfl
section
variable {w : World} {v : Value}
set_option maxRecDepth 100000 in
theorem vnone_yes (h : NoVers w v) : Calls Tryz.prog 102 #[v] w fun e w' => e = .returned (.bool true) ∧ w = w' := by
  rcases h with rfl | ⟨a, rfl, hr⟩
  · go_enter Tryz.func102, Tryz.ntmps102
    go_wp2
    go_ret
    exact ⟨rfl, rfl⟩
  · have c1 := row_cell hr (i := 1) rfl
    have hq := map_is_nil
    go_enter Tryz.func102, Tryz.ntmps102
    go_wp2
    go_ret
    exact ⟨rfl, rfl⟩
set_option maxRecDepth 100000 in
theorem VRoot_z (h : NoVers w v) (S : ByteArray) : Calls Tryz.prog 57 #[v, .string S] w fun e w' => e = .returned (.tuple #[.int .i64 0, .int .i64 1]) ∧ w = w' := by
  have H := Lib.hid (vnone_yes h)
  clear h
  go_enter Tryz.func57, Tryz.ntmps57
  go_wp2_with fail
  refine H.out.mono ?_; rintro e w1 ⟨rfl, rfl⟩
  go_wp2
  go_ret2
  exact ⟨rfl, rfl⟩
set_option maxRecDepth 100000 in
theorem VDrop_z (h : NoVers w v) (S : ByteArray) : Calls Tryz.prog 58 #[v, .string S] w fun e w' => e = .returned (.tuple #[.int .i64 0, .int .i64 1]) ∧ w = w' := by
  have H := Lib.hid (VRoot_z h S)
  clear h
  go_enter Tryz.func58, Tryz.ntmps58
  go_wp2_with fail
  refine H.out.mono ?_; rintro e w1 ⟨rfl, rfl⟩
  go_wp2
  go_ret2
  exact ⟨rfl, rfl⟩
set_option maxRecDepth 100000 in
theorem VMove_z (h : NoVers w v) (S : ByteArray) (root : Int) : Calls Tryz.prog 59 #[v, .string S, .int .i64 root] w fun e w' => e = .returned (.tuple #[.int .i64 0, .int .i64 1]) ∧ w = w' := by
  have H := Lib.hid (VRoot_z h S)
  clear h
  go_enter Tryz.func59, Tryz.ntmps59
  go_wp2_with fail
  refine H.out.mono ?_; rintro e w1 ⟨rfl, rfl⟩
  go_wp2
  go_ret2
  exact ⟨rfl, rfl⟩
set_option maxRecDepth 100000 in
theorem VAdd_z (h : NoVers w v) (S : ByteArray) (root : Int) : Calls Tryz.prog 60 #[v, .string S, .int .i64 root] w fun e w' => e = .returned (.int .i64 1) ∧ w = w' := by
  have H := Lib.hid (vnone_yes h)
  clear h
  go_enter Tryz.func60, Tryz.ntmps60
  go_wp2_with fail
  refine H.out.mono ?_; rintro e w1 ⟨rfl, rfl⟩
  go_wp2
  go_ret
  exact ⟨rfl, rfl⟩
set_option maxRecDepth 100000 in
theorem VNames_z (h : NoVers w v) : Calls Tryz.prog 61 #[v] w fun e w' => e = .returned (.slice none 0 0) ∧ w = w' := by
  have H := Lib.hid (vnone_yes h)
  clear h
  go_enter Tryz.func61, Tryz.ntmps61
  go_wp2_with fail
  refine H.out.mono ?_; rintro e w1 ⟨rfl, rfl⟩
  go_wp2
  go_ret
  exact ⟨rfl, rfl⟩
set_option maxRecDepth 100000 in
theorem VRoots_z (h : NoVers w v) : Calls Tryz.prog 62 #[v] w fun e w' => e = .returned (.slice none 0 0) ∧ w = w' := by
  have H := Lib.hid (VNames_z h)
  clear h
  go_enter Tryz.func62, Tryz.ntmps62
  go_wp2_with fail
  refine H.out.mono ?_; rintro e w1 ⟨rfl, rfl⟩
  go_wp2_with fail
  go_loopg [3, 5, 9] 0 (fun g s3 s5 s9 wr => s9 = .int .i64 0 ∧ s3 = .slice none 0 0 ∧ wr = w)
  case atStart => exact ⟨rfl, rfl, rfl⟩
  case round =>
    obtain ⟨rfl, rfl, rfl⟩ := hrel
    go_wp2
    go_ret
    exact ⟨rfl, rfl⟩
set_option maxRecDepth 100000 in
theorem VLen_z (h : NoVers w v) : Calls Tryz.prog 63 #[v] w fun e w' => e = .returned (.int .i64 0) ∧ w = w' := by
  have H := Lib.hid (vnone_yes h)
  clear h
  go_enter Tryz.func63, Tryz.ntmps63
  go_wp2_with fail
  refine H.out.mono ?_; rintro e w1 ⟨rfl, rfl⟩
  go_wp2
  go_ret
  exact ⟨rfl, rfl⟩
set_option maxRecDepth 100000 in
theorem VStore_z (h : NoVers w v) : Calls Tryz.prog 64 #[v] w fun e w' => e = .returned (.pointer none) ∧ w = w' := by
  have H := Lib.hid (vnone_yes h)
  clear h
  go_enter Tryz.func64, Tryz.ntmps64
  go_wp2_with fail
  refine H.out.mono ?_; rintro e w1 ⟨rfl, rfl⟩
  go_wp2
  go_ret
  exact ⟨rfl, rfl⟩
set_option maxRecDepth 100000 in
theorem VNew_z (h : NoStore w v) : Calls Tryz.prog 22 #[v] w fun e w' => e = .returned (.tuple #[.pointer none, .int .i64 1]) ∧ w = w' := by
  have H := Lib.hid (Room_z h)
  clear h
  go_enter Tryz.func22, Tryz.ntmps22
  go_wp2_with fail
  refine H.out.mono ?_; rintro e w1 ⟨rfl, rfl⟩
  go_wp2
  go_ret2
  exact ⟨rfl, rfl⟩
end
end Go.Proofs.YtfllneenonhonaaGreat.Store
