/- audit's calls where there is no store. -/
import Derived.Test.YtmeglndnkdgkoaaGreatStoreZ
namespace Go.Proofs.YtmeglndnkdgkoaaGreat.Store
open Go Go.RowKit Go.Proofs.YtmeglndnkdgkoaaGreat Go.Proofs.YtmeglndnkdgkoaaGreat.ShaW Go.Proofs.YtmeglndnkdgkoaaGreat.Path
set_option maxHeartbeats 1600000
set_option linter.unusedVariables false

theorem acheck_z {w : World} {v : Value} (h : NoStore w v) (ao : Option Addr) (n cap : Nat) : Calls Tryz.prog 115 #[v, .slice ao n cap] w fun e w' => e = .returned (.int .i64 1) ∧ w = w' := by
  have H := Lib.hid (Room_z h)
  clear h
  go_enter Tryz.func115, Tryz.ntmps115
  go_wp2_with fail
  refine H.out.mono ?_; rintro e w1 ⟨rfl, rfl⟩
  go_wp2
  go_ret
  exact ⟨rfl, rfl⟩
theorem ACheck_z {w : World} {v : Value} (h : NoStore w v) (ao : Option Addr) (n cap : Nat) : Calls Tryz.prog 42 #[v, .slice ao n cap] w fun e w' => e = .returned (.tuple #[.slice none 0 0, .int .i64 1]) ∧ w = w' := by
  have H := Lib.hid (acheck_z h ao n cap)
  clear h
  go_enter Tryz.func42, Tryz.ntmps42
  go_wp2_with fail
  refine H.out.mono ?_; rintro e w1 ⟨rfl, rfl⟩
  go_wp2
  go_ret2
  exact ⟨rfl, rfl⟩
theorem AReached_z {w : World} {v : Value} (h : NoStore w v) (ao : Option Addr) (n cap : Nat) : Calls Tryz.prog 50 #[v, .slice ao n cap] w fun e w' => e = .returned (.tuple #[.slice none 0 0, .int .i64 1]) ∧ w = w' := by
  have H := Lib.hid (acheck_z h ao n cap)
  clear h
  go_enter Tryz.func50, Tryz.ntmps50
  go_wp2_with fail
  refine H.out.mono ?_; rintro e w1 ⟨rfl, rfl⟩
  go_wp2
  go_ret2
  exact ⟨rfl, rfl⟩
theorem ALost_z {w : World} {v : Value} (h : NoStore w v) (ao : Option Addr) (n cap : Nat) : Calls Tryz.prog 51 #[v, .slice ao n cap] w fun e w' => e = .returned (.tuple #[.slice none 0 0, .int .i64 1]) ∧ w = w' := by
  have H := Lib.hid (acheck_z h ao n cap)
  clear h
  go_enter Tryz.func51, Tryz.ntmps51
  go_wp2_with fail
  refine H.out.mono ?_; rintro e w1 ⟨rfl, rfl⟩
  go_wp2
  go_ret2
  exact ⟨rfl, rfl⟩
theorem AShared_z {w : World} {v : Value} (h : NoStore w v) (ao : Option Addr) (n cap : Nat) : Calls Tryz.prog 46 #[v, .slice ao n cap] w fun e w' => e = .returned (.tuple #[.int .i64 0, .int .i64 1]) ∧ w = w' := by
  have H := Lib.hid (acheck_z h ao n cap)
  clear h
  go_enter Tryz.func46, Tryz.ntmps46
  go_wp2_with fail
  refine H.out.mono ?_; rintro e w1 ⟨rfl, rfl⟩
  go_wp2
  go_ret2
  exact ⟨rfl, rfl⟩
theorem ASound_z {w : World} {v : Value} (h : NoStore w v) (root : Int) : Calls Tryz.prog 44 #[v, .int .i64 root] w fun e w' => e = .returned (.tuple #[.bool false, .int .i64 1]) ∧ Adds w w' := by
  have H := Lib.hid (acheck_z (h.adds ((Ch.refl _ w).alloc (.cells #[.int .i64 root] 3))) (some ⟨w.heap.size, 0, none⟩) 1 1)
  clear h
  go_enter Tryz.func44, Tryz.ntmps44
  go_wp2_with fail
  refine H.out.mono ?_; rintro e w1 ⟨rfl, rfl⟩
  go_wp2
  go_ret2
  exact ⟨rfl, (Ch.refl _ _).alloc _⟩
end Go.Proofs.YtmeglndnkdgkoaaGreat.Store
