/- DropNone: all is answered as of no store: the walk. -/
import Derived.Test.YtpeebeebakjpdaaAwake10
namespace Go.Proofs.Ytpeebeebakjpdaa.Store
open Go Go.RowKit Go.Proofs.Ytpeebeebakjpdaa Go.Proofs.Ytpeebeebakjpdaa.ShaW Go.Proofs.Ytpeebeebakjpdaa.Path
set_option maxHeartbeats 1600000
set_option linter.unusedVariables false
theorem DropK_z {w : World} {v : Value} (h : NoStore w v) (root : Int) (K : Array Value) :
    Calls Try.prog 21 #[v, .int .i64 root, .agg K] w fun e w' => e = .returned (.tuple #[.int .i64 0, .bool false, .int .i64 1]) ∧ Adds w w' := by
  have H := Lib.hid (AtHand_z (h.adds ((Ch.refl _ _).alloc (.cells K 29))) root)
  clear h
  go_enter Try.func21, Try.ntmps21
  go_wp2_with fail
  refine H.out.mono ?_; rintro e w1 ⟨rfl, rfl⟩
  go_wp2
  go_ret3
  exact ⟨rfl, (Ch.refl _ _).alloc _⟩
theorem DCost_z {w : World} {v : Value} (h : NoStore w v) (root : Int) (K : Array Value) :
    Calls Try.prog 22 #[v, .int .i64 root, .agg K] w fun e w' => e = .returned (.tuple #[.int .i64 0, .int .i64 1]) ∧ Adds w w' := by
  have H := Lib.hid (AtHand_z (h.adds ((Ch.refl _ _).alloc (.cells K 29))) root)
  clear h
  go_enter Try.func22, Try.ntmps22
  go_wp2_with fail
  refine H.out.mono ?_; rintro e w1 ⟨rfl, rfl⟩
  go_wp2
  go_ret2
  exact ⟨rfl, (Ch.refl _ _).alloc _⟩
end Go.Proofs.Ytpeebeebakjpdaa.Store
namespace Go.Proofs.Ytpeebeebakjpdaa.Law10
open Go Go.RowKit Go.Proofs.Ytpeebeebakjpdaa Go.Proofs.Ytpeebeebakjpdaa.ShaW Go.Proofs.Ytpeebeebakjpdaa.Path Go.Proofs.Ytpeebeebakjpdaa.Store Go.Proofs.Ytpeebeebakjpdaa.Law9
set_option maxHeartbeats 1600000
set_option linter.unusedVariables false

def Place10 (bK bR bs : Nat) (K : Array Value) (w0 w : World) : Prop :=
  w.heap[bK]? = some (.cells K 29 (0, 0)) ∧ (∃ t, w.heap[bR]? = some (.cells #[.pointer none, .pointer (some ⟨bs, 0, none⟩)] t (0, 0))) ∧ w.heap[bs]? = some (.cells #[.pointer none] 49 (0, 0)) ∧ Adds w0 w
theorem Place10.adds {bK bR bs : Nat} {K : Array Value} {w0 w w' : World} (h : Place10 bK bR bs K w0 w) (a : Adds w w') : Place10 bK bR bs K w0 w' := ⟨a.row h.1 id, h.2.1.imp fun t ht => a.row ht id, a.row h.2.2.1 id, h.2.2.2.trans a (fun _ h => h.elim)⟩
set_option maxRecDepth 100000 in
theorem none_law (h : Int) (key : List UInt8) (hk : key.length = 32) (w : World) :
    Calls Try.prog 7 #[.int .i64 h, .agg (brow key)] w fun e w' => e = .returned (.bool true) ∧ Adds w w' := by
  obtain ⟨K, hK⟩ : ∃ K, K = brow key := ⟨_, rfl⟩
  have hKs : K.size = 32 := by rw [hK, brow_size, hk]
  rw [← hK]
  have hr := heap_alloc_new w (.cells K 29)
  have HK := Lib.hid hKs
  clear hK hKs
  go_enter Try.func7, Try.ntmps7
  go_wp2_with fail
  have HP0 : RowKit.Hid (∀ t, Place10 w.heap.size (w.heap.size + 1 + 1) (w.heap.size + 1) K w (((w.alloc (.cells K 29)).alloc (.cells #[.pointer none] 49)).alloc (.cells #[.pointer none, .pointer (some ⟨w.heap.size + 1, 0, none⟩)] t))) := Lib.hid (fun t => by
    refine ⟨row_alloc (row_alloc hr _) _, ⟨t, ?_⟩, row_alloc (w := (w.alloc (.cells K 29)).alloc (.cells #[.pointer none] 49)) ?_ _, (((Ch.refl _ _).alloc _).alloc _).alloc _⟩
    · have := heap_alloc_new ((w.alloc (.cells K 29)).alloc (.cells #[.pointer none] 49)) (.cells #[.pointer none, .pointer (some ⟨w.heap.size + 1, 0, none⟩)] t)
      simpa using this
    · have := heap_alloc_new (w.alloc (.cells K 29)) (.cells #[.pointer none] 49)
      simpa using this)
  clear hr
  go_loopg [6, 7, 8, 9, 10, 11] 2 (fun g s6 s7 s8 s9 s10 s11 wr => ∃ k : Nat, s6 = .int .i64 k ∧ k + g = 2 ∧ Place10 w.heap.size (w.heap.size + 1 + 1) (w.heap.size + 1) K w wr)
  case atStart => exact ⟨0, rfl, rfl, HP0.out _⟩
  case round =>
    obtain ⟨k, rfl, hk, hp⟩ := hrel
    have HP := Lib.hid hp
    clear hp HP0
    rcases (show k = 2 ∨ k = 0 ∨ k = 1 by omega) with rfl | rfl | rfl
    · go_wp2_with fail
      refine (awake_ok _).mono ?_; rintro e w3 ⟨rfl, a3⟩
      have H3 := Lib.hid (HP.out.adds a3)
      clear a3
      go_wp2
      go_ret
      exact ⟨rfl, H3.out.2.2.2⟩
    · obtain ⟨g, rfl⟩ : ∃ g, gk = g + 1 := ⟨gk - 1, by omega⟩
      go_wp2
      refine wp_region_plan (fun w0 => Place10 w.heap.size (w.heap.size + 1 + 1) (w.heap.size + 1) K w w0) 14 [(0, false), (1, false), (2, false), (3, false), (4, false), (5, false), (6, true), (7, false), (8, false), (9, false), (10, false), (11, false), (12, false), (13, false)] (by kernel_rfl) (by kernel_rfl) ?_ ?_
      · exact HP.out.adds (Ch.refl _ _).drew
      iterate 3
        iterate 1 refine plan_look rfl rfl (fun w0 hS => (by go_simp; try rfl)) ?_
        simp only [Act.put, List.setIfInBounds_toArray, List.set_cons_succ, List.set_cons_zero]
      refine plan_look (v := .pointer none) rfl rfl (fun w0 hS => (by obtain ⟨tt, hS⟩ := hS.2.1; have e0 := row_cell hS (i := 0) rfl; clear hS; go_simp; try rfl)) ?_
      simp only [Act.put, List.setIfInBounds_toArray, List.set_cons_succ, List.set_cons_zero]
      iterate 1 refine plan_look rfl rfl (fun w0 hS => (by go_simp; try rfl)) ?_
      simp only [Act.put, List.setIfInBounds_toArray, List.set_cons_succ, List.set_cons_zero]
      refine plan_load_part (cur := K) (t := 29) (fr := (0, 0)) rfl rfl 29 _ rfl w.heap.size 0 32 rfl (fun w0 hS => hS.1) Try.underlying29 rfl sizeP (by rw [HK.out]; omega) K (by simp [← HK.out]) ?_
      simp only [Act.put, List.setIfInBounds_toArray, List.set_cons_succ, List.set_cons_zero]
      refine plan_do rfl ?_
      go_wp2_with fail
      refine (DropK_z (.inl rfl) h K).mono ?_; rintro e w5 ⟨rfl, a9⟩
      have H5 := Lib.hid (Place10.adds (HP.out.adds (Ch.refl _ _).drew) a9)
      clear a9
      dsimp only
      go_step
      refine wpList_nil ?_
      change _ ∧ _
      refine ⟨H5.out, ?_⟩
      iterate 7
        refine plan_look rfl rfl (fun w0 hS => (by clear hS; go_simp; try rfl)) ?_
        simp only [Act.put, List.setIfInBounds_toArray, List.set_cons_succ, List.set_cons_zero]
      refine plan_end ?_; simp only [List.drop_succ_cons, List.drop_zero]
      go_wp2
      refine NoPanic.normal ?_
      go_wp2
      refine wp_region_plan (fun w0 => Place10 w.heap.size (w.heap.size + 1 + 1) (w.heap.size + 1) K w w0) 12 [(0, false), (1, false), (2, false), (3, false), (4, false), (5, false), (6, true), (7, false), (8, false), (9, false), (10, false), (11, false)] (by kernel_rfl) (by kernel_rfl) ?_ ?_
      · exact H5.out.adds (Ch.refl _ _).drew
      iterate 3
        iterate 1 refine plan_look rfl rfl (fun w0 hS => (by go_simp; try rfl)) ?_
        simp only [Act.put, List.setIfInBounds_toArray, List.set_cons_succ, List.set_cons_zero]
      refine plan_look (v := .pointer none) rfl rfl (fun w0 hS => (by obtain ⟨tt, hS⟩ := hS.2.1; have e0 := row_cell hS (i := 0) rfl; clear hS; go_simp; try rfl)) ?_
      simp only [Act.put, List.setIfInBounds_toArray, List.set_cons_succ, List.set_cons_zero]
      iterate 1 refine plan_look rfl rfl (fun w0 hS => (by go_simp; try rfl)) ?_
      simp only [Act.put, List.setIfInBounds_toArray, List.set_cons_succ, List.set_cons_zero]
      refine plan_load_part (cur := K) (t := 29) (fr := (0, 0)) rfl rfl 29 _ rfl w.heap.size 0 32 rfl (fun w0 hS => hS.1) Try.underlying29 rfl sizeP (by rw [HK.out]; omega) K (by simp [← HK.out]) ?_
      simp only [Act.put, List.setIfInBounds_toArray, List.set_cons_succ, List.set_cons_zero]
      refine plan_do rfl ?_
      go_wp2_with fail
      refine (DCost_z (.inl rfl) h K).mono ?_; rintro e w6 ⟨rfl, a9⟩
      have H6 := Lib.hid (Place10.adds (H5.out.adds (Ch.refl _ _).drew) a9)
      clear a9
      dsimp only
      go_step
      refine wpList_nil ?_
      change _ ∧ _
      refine ⟨H6.out, ?_⟩
      iterate 5
        refine plan_look rfl rfl (fun w0 hS => (by clear hS; go_simp; try rfl)) ?_
        simp only [Act.put, List.setIfInBounds_toArray, List.set_cons_succ, List.set_cons_zero]
      refine plan_end ?_; simp only [List.drop_succ_cons, List.drop_zero]
      go_wp2
      refine NoPanic.normal ?_
      go_wp2
      go_roundg g
      case measure => omega
      case rel => exact ⟨1, rfl, by omega, H6.out⟩
    · obtain ⟨g, rfl⟩ : ∃ g, gk = g + 1 := ⟨gk - 1, by omega⟩
      go_wp2
      refine wp_region_plan (fun w0 => Place10 w.heap.size (w.heap.size + 1 + 1) (w.heap.size + 1) K w w0) 14 [(0, false), (1, false), (2, false), (3, false), (4, false), (5, false), (6, true), (7, false), (8, false), (9, false), (10, false), (11, false), (12, false), (13, false)] (by kernel_rfl) (by kernel_rfl) ?_ ?_
      · exact HP.out.adds (Ch.refl _ _).drew
      iterate 3
        iterate 1 refine plan_look rfl rfl (fun w0 hS => (by go_simp; try rfl)) ?_
        simp only [Act.put, List.setIfInBounds_toArray, List.set_cons_succ, List.set_cons_zero]
      refine plan_look (v := .pointer (some ⟨w.heap.size + 1, 0, none⟩)) rfl rfl (fun w0 hS => (by obtain ⟨tt, hS⟩ := hS.2.1; have e0 := row_cell hS (i := 1) rfl; clear hS; go_simp; try rfl)) ?_
      simp only [Act.put, List.setIfInBounds_toArray, List.set_cons_succ, List.set_cons_zero]
      iterate 1 refine plan_look rfl rfl (fun w0 hS => (by go_simp; try rfl)) ?_
      simp only [Act.put, List.setIfInBounds_toArray, List.set_cons_succ, List.set_cons_zero]
      refine plan_load_part (cur := K) (t := 29) (fr := (0, 0)) rfl rfl 29 _ rfl w.heap.size 0 32 rfl (fun w0 hS => hS.1) Try.underlying29 rfl sizeP (by rw [HK.out]; omega) K (by simp [← HK.out]) ?_
      simp only [Act.put, List.setIfInBounds_toArray, List.set_cons_succ, List.set_cons_zero]
      refine plan_do rfl ?_
      go_wp2_with fail
      refine (DropK_z (.inr ⟨_, rfl, (HP.out.adds (Ch.refl _ _).drew).2.2.1⟩) h K).mono ?_; rintro e w5 ⟨rfl, a9⟩
      have H5 := Lib.hid (Place10.adds (HP.out.adds (Ch.refl _ _).drew) a9)
      clear a9
      dsimp only
      go_step
      refine wpList_nil ?_
      change _ ∧ _
      refine ⟨H5.out, ?_⟩
      iterate 7
        refine plan_look rfl rfl (fun w0 hS => (by clear hS; go_simp; try rfl)) ?_
        simp only [Act.put, List.setIfInBounds_toArray, List.set_cons_succ, List.set_cons_zero]
      refine plan_end ?_; simp only [List.drop_succ_cons, List.drop_zero]
      go_wp2
      refine NoPanic.normal ?_
      go_wp2
      refine wp_region_plan (fun w0 => Place10 w.heap.size (w.heap.size + 1 + 1) (w.heap.size + 1) K w w0) 12 [(0, false), (1, false), (2, false), (3, false), (4, false), (5, false), (6, true), (7, false), (8, false), (9, false), (10, false), (11, false)] (by kernel_rfl) (by kernel_rfl) ?_ ?_
      · exact H5.out.adds (Ch.refl _ _).drew
      iterate 3
        iterate 1 refine plan_look rfl rfl (fun w0 hS => (by go_simp; try rfl)) ?_
        simp only [Act.put, List.setIfInBounds_toArray, List.set_cons_succ, List.set_cons_zero]
      refine plan_look (v := .pointer (some ⟨w.heap.size + 1, 0, none⟩)) rfl rfl (fun w0 hS => (by obtain ⟨tt, hS⟩ := hS.2.1; have e0 := row_cell hS (i := 1) rfl; clear hS; go_simp; try rfl)) ?_
      simp only [Act.put, List.setIfInBounds_toArray, List.set_cons_succ, List.set_cons_zero]
      iterate 1 refine plan_look rfl rfl (fun w0 hS => (by go_simp; try rfl)) ?_
      simp only [Act.put, List.setIfInBounds_toArray, List.set_cons_succ, List.set_cons_zero]
      refine plan_load_part (cur := K) (t := 29) (fr := (0, 0)) rfl rfl 29 _ rfl w.heap.size 0 32 rfl (fun w0 hS => hS.1) Try.underlying29 rfl sizeP (by rw [HK.out]; omega) K (by simp [← HK.out]) ?_
      simp only [Act.put, List.setIfInBounds_toArray, List.set_cons_succ, List.set_cons_zero]
      refine plan_do rfl ?_
      go_wp2_with fail
      refine (DCost_z (.inr ⟨_, rfl, (H5.out.adds (Ch.refl _ _).drew).2.2.1⟩) h K).mono ?_; rintro e w6 ⟨rfl, a9⟩
      have H6 := Lib.hid (Place10.adds (H5.out.adds (Ch.refl _ _).drew) a9)
      clear a9
      dsimp only
      go_step
      refine wpList_nil ?_
      change _ ∧ _
      refine ⟨H6.out, ?_⟩
      iterate 5
        refine plan_look rfl rfl (fun w0 hS => (by clear hS; go_simp; try rfl)) ?_
        simp only [Act.put, List.setIfInBounds_toArray, List.set_cons_succ, List.set_cons_zero]
      refine plan_end ?_; simp only [List.drop_succ_cons, List.drop_zero]
      go_wp2
      refine NoPanic.normal ?_
      go_wp2
      go_roundg g
      case measure => omega
      case rel => exact ⟨2, rfl, by omega, H6.out⟩
end Go.Proofs.Ytpeebeebakjpdaa.Law10
