/- AuditNone: all is answered as of no store: the walk. -/
import Derived.Test.YtmeglndnkdgkoaaGreatTwo1
import Derived.Test.YtmeglndnkdgkoaaGreatAudZ
import Derived.Deep.LoopGhost
namespace Go.Proofs.YtmeglndnkdgkoaaGreat.Law12
open Go Go.RowKit Go.Proofs.YtmeglndnkdgkoaaGreat Go.Proofs.YtmeglndnkdgkoaaGreat.ShaW Go.Proofs.YtmeglndnkdgkoaaGreat.Path Go.Proofs.YtmeglndnkdgkoaaGreat.Store Go.Proofs.YtmeglndnkdgkoaaGreat.Law9
set_option maxHeartbeats 6400000
set_option linter.unusedVariables false

def Place12 (bR bs : Nat) (w0 w : World) : Prop :=
  (∃ t, w.heap[bR]? = some (.cells #[.pointer none, .pointer (some ⟨bs, 0, none⟩)] t (0, 0))) ∧ w.heap[bs]? = some (.cells #[.pointer none] 111 (0, 0)) ∧ Adds w0 w
theorem Place12.adds {bR bs : Nat} {w0 w w' : World} (h : Place12 bR bs w0 w) (a : Adds w w') : Place12 bR bs w0 w' := ⟨h.1.imp fun t ht => a.row ht id, a.row h.2.1 id, h.2.2.trans a (fun _ h => h.elim)⟩
set_option maxRecDepth 100000 in
theorem none_law (ao : Option Addr) (n cap : Nat) (w : World) : Calls Tryz.prog 13 #[.slice ao n cap] w fun e w' => e = .returned (.bool true) ∧ Adds w w' := by
  go_enter Tryz.func13, Tryz.ntmps13
  go_wp2_with fail
  have HP0 : RowKit.Hid (∀ t, Place12 (w.heap.size + 1) w.heap.size w ((w.alloc (.cells #[.pointer none] 111)).alloc (.cells #[.pointer none, .pointer (some ⟨w.heap.size, 0, none⟩)] t))) := Lib.hid (fun t => by
    refine ⟨⟨t, ?_⟩, row_alloc (heap_alloc_new _ _) _, ((Ch.refl _ _).alloc _).alloc _⟩
    have := heap_alloc_new (w.alloc (.cells #[.pointer none] 111)) (.cells #[.pointer none, .pointer (some ⟨w.heap.size, 0, none⟩)] t)
    simpa using this)
  go_loopg [4, 5, 6, 7, 8, 9, 10, 11, 12, 13, 14, 24, 33, 42, 51, 60] 2 (fun g s4 s5 s6 s7 s8 s9 s10 s11 s12 s13 s14 s24 s33 s42 s51 s60 wr => ∃ k : Nat, s4 = .int .i64 k ∧ k + g = 2 ∧ Place12 (w.heap.size + 1) w.heap.size w wr)
  case atStart => exact ⟨0, rfl, rfl, HP0.out _⟩
  case round =>
    obtain ⟨k, rfl, hk, hp⟩ := hrel
    have HP := Lib.hid hp
    clear hp HP0
    rcases (show k = 2 ∨ k = 0 ∨ k = 1 by omega) with rfl | rfl | rfl
    · go_wp2_with fail
      refine (awake_ok _).mono ?_; rintro e w3 ⟨rfl, a3⟩
      have H3 := Lib.hid (HP.out.adds a3)
      clear a3
      go_wp2
      go_ret
      exact ⟨rfl, H3.out.2.2⟩
    · obtain ⟨g, rfl⟩ : ∃ g, gk = g + 1 := ⟨gk - 1, by omega⟩
      obtain ⟨t, ht⟩ := HP.out.1
      have c0 := row_cell ht (i := 0) rfl
      have hns : NoStore wr (.pointer none) := .inl rfl
      have HNS := Lib.hid hns
      clear ht hns
      go_wp2_with fail
      refine (ACheck_z HNS.out ao n cap).mono ?_; rintro e w1 ⟨rfl, rfl⟩
      go_wp2_with fail
      refine (AReached_z HNS.out ao n cap).mono ?_; rintro e w1 ⟨rfl, rfl⟩
      go_wp2_with fail
      refine (ALost_z HNS.out ao n cap).mono ?_; rintro e w1 ⟨rfl, rfl⟩
      go_wp2_with fail
      refine (AShared_z HNS.out ao n cap).mono ?_; rintro e w1 ⟨rfl, rfl⟩
      go_wp2_with fail
      refine (ASound_z HNS.out 0).mono ?_; rintro e w2 ⟨rfl, a2⟩
      have H2 := Lib.hid (HP.out.adds a2)
      clear a2 c0
      go_wp2
      go_roundg g
      case measure => omega
      case rel => exact ⟨0 + 1, by first | rfl | (simp; done), by omega, H2.out⟩
    · obtain ⟨g, rfl⟩ : ∃ g, gk = g + 1 := ⟨gk - 1, by omega⟩
      obtain ⟨t, ht⟩ := HP.out.1
      have c0 := row_cell ht (i := 1) rfl
      have hns : NoStore wr (.pointer (some ⟨w.heap.size, 0, none⟩)) := .inr ⟨_, rfl, HP.out.2.1⟩
      have HNS := Lib.hid hns
      clear ht hns
      go_wp2_with fail
      refine (ACheck_z HNS.out ao n cap).mono ?_; rintro e w1 ⟨rfl, rfl⟩
      go_wp2_with fail
      refine (AReached_z HNS.out ao n cap).mono ?_; rintro e w1 ⟨rfl, rfl⟩
      go_wp2_with fail
      refine (ALost_z HNS.out ao n cap).mono ?_; rintro e w1 ⟨rfl, rfl⟩
      go_wp2_with fail
      refine (AShared_z HNS.out ao n cap).mono ?_; rintro e w1 ⟨rfl, rfl⟩
      go_wp2_with fail
      refine (ASound_z HNS.out 0).mono ?_; rintro e w2 ⟨rfl, a2⟩
      have H2 := Lib.hid (HP.out.adds a2)
      clear a2 c0
      go_wp2
      go_roundg g
      case measure => omega
      case rel => exact ⟨1 + 1, by first | rfl | (simp; done), by omega, H2.out⟩
end Go.Proofs.YtmeglndnkdgkoaaGreat.Law12
