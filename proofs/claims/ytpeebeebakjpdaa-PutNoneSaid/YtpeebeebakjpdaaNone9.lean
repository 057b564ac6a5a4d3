/- PutNone: all is answered as of no store: the walk. -/
import Derived.Test.YtpeebeebakjpdaaAwake9
import Derived.Test.YtpeebeebakjpdaaPutP2
import Derived.Test.YtpeebeebakjpdaaPutI
import Derived.Deep.LoopGhost
namespace Go.Proofs.Ytpeebeebakjpdaa.Law9
open Go Go.RowKit Go.Proofs.Ytpeebeebakjpdaa Go.Proofs.Ytpeebeebakjpdaa.ShaW Go.Proofs.Ytpeebeebakjpdaa.Path Go.Proofs.Ytpeebeebakjpdaa.Store
set_option maxHeartbeats 1600000
set_option linter.unusedVariables false

def Place9 (bA bR bs : Nat) (C : Array Value) (w0 w : World) : Prop :=
  w.heap[bA]? = some (.cells C 46 (0, 0)) ∧ (∃ t, w.heap[bR]? = some (.cells #[.pointer none, .pointer (some ⟨bs, 0, none⟩)] t (0, 0))) ∧ w.heap[bs]? = some (.cells #[.pointer none] 49 (0, 0)) ∧ Adds w0 w
theorem Place9.adds {bA bR bs : Nat} {C : Array Value} {w0 w w' : World} (h : Place9 bA bR bs C w0 w) (a : Adds w w') : Place9 bA bR bs C w0 w' := ⟨a.row h.1 id, h.2.1.imp fun t ht => a.row ht id, a.row h.2.2.1 id, h.2.2.2.trans a (fun _ h => h.elim)⟩
set_option maxRecDepth 100000 in
theorem none_law (x : Act9) (w : World) (hx : x.Good w) :
    Calls Try.prog 5 #[.agg x.cells] w fun e w' => e = .returned (.bool true) ∧ Adds w w' := by
  have hk := hx.key
  have q1 := Act9.at_key hk
  have q2 := Act9.at_val hk
  have q3 := Act9.at_h hk
  have qs := Act9.size hk
  obtain ⟨kind, key, vv, val, h⟩ := x
  simp only at hk q1 q2 q3
  obtain ⟨C, hC⟩ : ∃ C, C = Act9.cells ⟨kind, key, vv, val, h⟩ := ⟨_, rfl⟩
  rw [← hC] at q1 q2 q3 qs ⊢
  obtain ⟨K, hK⟩ : ∃ K, K = brow key := ⟨_, rfl⟩
  rw [← hK] at q1
  have hr := heap_alloc_new w (.cells C 46)
  have HQ := Lib.hid (And.intro qs (And.intro q1 (And.intro q2 q3)))
  clear hC hx hK q1 q2 q3 qs hk
  go_enter Try.func5, Try.ntmps5
  go_wp2_with fail
  have HP0 : RowKit.Hid (∀ t, Place9 w.heap.size (w.heap.size + 1 + 1) (w.heap.size + 1) C w (((w.alloc (.cells C 46)).alloc (.cells #[.pointer none] 49)).alloc (.cells #[.pointer none, .pointer (some ⟨w.heap.size + 1, 0, none⟩)] t))) := Lib.hid (fun t => by
    refine ⟨row_alloc (row_alloc hr _) _, ⟨t, ?_⟩, row_alloc (w := (w.alloc (.cells C 46)).alloc (.cells #[.pointer none] 49)) ?_ _, (((Ch.refl _ _).alloc _).alloc _).alloc _⟩
    · have := heap_alloc_new ((w.alloc (.cells C 46)).alloc (.cells #[.pointer none] 49)) (.cells #[.pointer none, .pointer (some ⟨w.heap.size + 1, 0, none⟩)] t)
      simpa using this
    · have := heap_alloc_new (w.alloc (.cells C 46)) (.cells #[.pointer none] 49)
      simpa using this)
  clear hr
  go_loopg [4, 5, 6, 7, 8] 2 (fun g s4 s5 s6 s7 s8 wr => ∃ k : Nat, s4 = .int .i64 k ∧ k + g = 2 ∧ Place9 w.heap.size (w.heap.size + 1 + 1) (w.heap.size + 1) C w wr)
  case atStart => exact ⟨0, rfl, rfl, HP0.out _⟩
  case round =>
    obtain ⟨k, rfl, hk, hp⟩ := hrel
    have HP := Lib.hid hp
    clear hp HP0
    rcases (show k = 2 ∨ k = 0 ∨ k = 1 by omega) with rfl | rfl | rfl
    · go_wp2_with fail
      refine (awake_ok _).mono ?_; rintro e w3 ⟨rfl, a3⟩
      have H3 := Lib.hid (HP.out.adds a3)
      clear a3
      go_wp2
      go_ret
      exact ⟨rfl, H3.out.2.2.2⟩
    · obtain ⟨g, rfl⟩ : ∃ g, gk = g + 1 := ⟨gk - 1, by omega⟩
      go_wp2
      refine wp_region_plan (Place9 w.heap.size (w.heap.size + 1 + 1) (w.heap.size + 1) C w) 16 [(0, false), (1, false), (2, false), (3, false), (4, false), (5, false), (6, false), (7, false), (8, false), (9, false), (10, true), (11, false), (12, false), (13, false), (14, false), (15, false)] (by kernel_rfl) (by kernel_rfl) ?_ ?_
      · exact HP.out.adds (Ch.refl _ _).drew
      iterate 3
        iterate 1 refine plan_look rfl rfl (fun w0 hS => (by go_simp; try rfl)) ?_
        simp only [Act.put, List.setIfInBounds_toArray, List.set_cons_succ, List.set_cons_zero]
      refine plan_look (v := .pointer none) rfl rfl (fun w0 hS => (by obtain ⟨tt, hS⟩ := hS.2.1; have e0 := row_cell hS (i := 0) rfl; clear hS; go_simp; try rfl)) ?_
      simp only [Act.put, List.setIfInBounds_toArray, List.set_cons_succ, List.set_cons_zero]
      iterate 1 refine plan_look rfl rfl (fun w0 hS => (by go_simp; try rfl)) ?_
      simp only [Act.put, List.setIfInBounds_toArray, List.set_cons_succ, List.set_cons_zero]
      refine plan_look (v := .int .i64 h) rfl rfl (fun w0 hS => (by have e0 := row_cell hS.1 HQ.out.2.2.2; clear hS; go_simp; try rfl)) ?_
      simp only [Act.put, List.setIfInBounds_toArray, List.set_cons_succ, List.set_cons_zero]
      iterate 1 refine plan_look rfl rfl (fun w0 hS => (by go_simp; try rfl)) ?_
      simp only [Act.put, List.setIfInBounds_toArray, List.set_cons_succ, List.set_cons_zero]
      refine plan_load_part (cur := C) (t := 46) (fr := (0, 0)) rfl rfl 29 _ rfl w.heap.size 1 32 rfl (fun w0 hS => hS.1) Try.underlying29 rfl sizeP (by rw [HQ.out.1]; omega) K HQ.out.2.1 ?_
      simp only [Act.put, List.setIfInBounds_toArray, List.set_cons_succ, List.set_cons_zero]
      iterate 1 refine plan_look rfl rfl (fun w0 hS => (by go_simp; try rfl)) ?_
      simp only [Act.put, List.setIfInBounds_toArray, List.set_cons_succ, List.set_cons_zero]
      refine plan_look (v := vv) rfl rfl (fun w0 hS => (by have e0 := row_cell hS.1 HQ.out.2.2.1; clear hS; go_simp; try rfl)) ?_
      simp only [Act.put, List.setIfInBounds_toArray, List.set_cons_succ, List.set_cons_zero]
      refine plan_do rfl ?_
      go_wp2_with fail
      refine (Put_z (.inl rfl) h K vv).mono ?_; rintro e w5 ⟨rfl, a9⟩
      have H5 := Lib.hid (Place9.adds (HP.out.adds (Ch.refl _ _).drew) a9)
      clear a9
      dsimp only
      go_step
      refine wpList_nil ?_
      change _ ∧ _
      refine ⟨H5.out, ?_⟩
      iterate 5
        refine plan_look rfl rfl (fun w0 hS => (by clear hS; go_simp; try rfl)) ?_
        simp only [Act.put, List.setIfInBounds_toArray, List.set_cons_succ, List.set_cons_zero]
      refine plan_end ?_; simp only [List.drop_succ_cons, List.drop_zero]
      go_wp2
      refine NoPanic.normal ?_
      go_wp2
      refine wp_region_plan (Place9 w.heap.size (w.heap.size + 1 + 1) (w.heap.size + 1) C w) 16 [(0, false), (1, false), (2, false), (3, false), (4, false), (5, false), (6, false), (7, false), (8, false), (9, false), (10, true), (11, false), (12, false), (13, false), (14, false), (15, false)] (by kernel_rfl) (by kernel_rfl) ?_ ?_
      · exact H5.out.adds (Ch.refl _ _).drew
      iterate 3
        iterate 1 refine plan_look rfl rfl (fun w0 hS => (by go_simp; try rfl)) ?_
        simp only [Act.put, List.setIfInBounds_toArray, List.set_cons_succ, List.set_cons_zero]
      refine plan_look (v := .pointer none) rfl rfl (fun w0 hS => (by obtain ⟨tt, hS⟩ := hS.2.1; have e0 := row_cell hS (i := 0) rfl; clear hS; go_simp; try rfl)) ?_
      simp only [Act.put, List.setIfInBounds_toArray, List.set_cons_succ, List.set_cons_zero]
      iterate 1 refine plan_look rfl rfl (fun w0 hS => (by go_simp; try rfl)) ?_
      simp only [Act.put, List.setIfInBounds_toArray, List.set_cons_succ, List.set_cons_zero]
      refine plan_look (v := .int .i64 h) rfl rfl (fun w0 hS => (by have e0 := row_cell hS.1 HQ.out.2.2.2; clear hS; go_simp; try rfl)) ?_
      simp only [Act.put, List.setIfInBounds_toArray, List.set_cons_succ, List.set_cons_zero]
      iterate 1 refine plan_look rfl rfl (fun w0 hS => (by go_simp; try rfl)) ?_
      simp only [Act.put, List.setIfInBounds_toArray, List.set_cons_succ, List.set_cons_zero]
      refine plan_load_part (cur := C) (t := 46) (fr := (0, 0)) rfl rfl 29 _ rfl w.heap.size 1 32 rfl (fun w0 hS => hS.1) Try.underlying29 rfl sizeP (by rw [HQ.out.1]; omega) K HQ.out.2.1 ?_
      simp only [Act.put, List.setIfInBounds_toArray, List.set_cons_succ, List.set_cons_zero]
      iterate 1 refine plan_look rfl rfl (fun w0 hS => (by go_simp; try rfl)) ?_
      simp only [Act.put, List.setIfInBounds_toArray, List.set_cons_succ, List.set_cons_zero]
      refine plan_look (v := vv) rfl rfl (fun w0 hS => (by have e0 := row_cell hS.1 HQ.out.2.2.1; clear hS; go_simp; try rfl)) ?_
      simp only [Act.put, List.setIfInBounds_toArray, List.set_cons_succ, List.set_cons_zero]
      refine plan_do rfl ?_
      go_wp2_with fail
      refine (Cost_z (.inl rfl) h K vv).mono ?_; rintro e w6 ⟨rfl, a9⟩
      have H6 := Lib.hid (Place9.adds (H5.out.adds (Ch.refl _ _).drew) a9)
      clear a9
      dsimp only
      go_step
      refine wpList_nil ?_
      change _ ∧ _
      refine ⟨H6.out, ?_⟩
      iterate 5
        refine plan_look rfl rfl (fun w0 hS => (by clear hS; go_simp; try rfl)) ?_
        simp only [Act.put, List.setIfInBounds_toArray, List.set_cons_succ, List.set_cons_zero]
      refine plan_end ?_; simp only [List.drop_succ_cons, List.drop_zero]
      go_wp2
      refine NoPanic.normal ?_
      go_wp2
      refine wp_region_plan (Place9 w.heap.size (w.heap.size + 1 + 1) (w.heap.size + 1) C w) 33 [(0, false), (1, false), (2, false), (3, false), (4, false), (5, false), (6, false), (7, false), (8, false), (9, false), (10, false), (11, false), (12, false), (13, false), (14, false), (15, false), (16, false), (17, false), (18, false), (19, false), (20, false), (21, true), (22, false), (23, false), (24, false), (25, false), (26, false), (27, false), (28, false), (29, false), (30, true), (31, false), (32, false)] (by kernel_rfl) (by kernel_rfl) ?_ ?_
      · exact H6.out.adds (Ch.refl _ _).drew
      iterate 15
        refine plan_look rfl rfl (fun w0 hS => (by clear hS; go_simp; try rfl)) ?_
        simp only [Act.put, List.setIfInBounds_toArray, List.set_cons_succ, List.set_cons_zero]
      iterate 1 refine plan_look rfl rfl (fun w0 hS => (by go_simp; try rfl)) ?_
      simp only [Act.put, List.setIfInBounds_toArray, List.set_cons_succ, List.set_cons_zero]
      iterate 1 refine plan_look rfl rfl (fun w0 hS => (by go_simp; try rfl)) ?_
      simp only [Act.put, List.setIfInBounds_toArray, List.set_cons_succ, List.set_cons_zero]
      iterate 1 refine plan_look rfl rfl (fun w0 hS => (by go_simp; try rfl)) ?_
      simp only [Act.put, List.setIfInBounds_toArray, List.set_cons_succ, List.set_cons_zero]
      refine plan_look (v := .pointer none) rfl rfl (fun w0 hS => (by obtain ⟨tt, hS⟩ := hS.2.1; have e0 := row_cell hS (i := 0) rfl; clear hS; go_simp; try rfl)) ?_
      simp only [Act.put, List.setIfInBounds_toArray, List.set_cons_succ, List.set_cons_zero]
      iterate 1 refine plan_look rfl rfl (fun w0 hS => (by go_simp; try rfl)) ?_
      simp only [Act.put, List.setIfInBounds_toArray, List.set_cons_succ, List.set_cons_zero]
      refine plan_look (v := .int .i64 h) rfl rfl (fun w0 hS => (by have e0 := row_cell hS.1 HQ.out.2.2.2; clear hS; go_simp; try rfl)) ?_
      simp only [Act.put, List.setIfInBounds_toArray, List.set_cons_succ, List.set_cons_zero]
      refine plan_do rfl ?_
      go_wp2_with fail
      refine (Fits_z (.inl rfl) h).mono ?_; rintro e w9 ⟨rfl, rfl⟩
      dsimp only
      go_step
      refine wpList_nil ?_
      change _ ∧ _
      refine ⟨H6.out.adds (Ch.refl _ _).drew, ?_⟩
      iterate 2
        refine plan_look rfl rfl (fun w0 hS => (by clear hS; go_simp; try rfl)) ?_
        simp only [Act.put, List.setIfInBounds_toArray, List.set_cons_succ, List.set_cons_zero]
      iterate 1 refine plan_look rfl rfl (fun w0 hS => (by go_simp; try rfl)) ?_
      simp only [Act.put, List.setIfInBounds_toArray, List.set_cons_succ, List.set_cons_zero]
      iterate 1 refine plan_look rfl rfl (fun w0 hS => (by go_simp; try rfl)) ?_
      simp only [Act.put, List.setIfInBounds_toArray, List.set_cons_succ, List.set_cons_zero]
      iterate 1 refine plan_look rfl rfl (fun w0 hS => (by go_simp; try rfl)) ?_
      simp only [Act.put, List.setIfInBounds_toArray, List.set_cons_succ, List.set_cons_zero]
      refine plan_look (v := .pointer none) rfl rfl (fun w0 hS => (by obtain ⟨tt, hS⟩ := hS.2.1; have e0 := row_cell hS (i := 0) rfl; clear hS; go_simp; try rfl)) ?_
      simp only [Act.put, List.setIfInBounds_toArray, List.set_cons_succ, List.set_cons_zero]
      iterate 1 refine plan_look rfl rfl (fun w0 hS => (by go_simp; try rfl)) ?_
      simp only [Act.put, List.setIfInBounds_toArray, List.set_cons_succ, List.set_cons_zero]
      refine plan_look (v := .int .i64 h) rfl rfl (fun w0 hS => (by have e0 := row_cell hS.1 HQ.out.2.2.2; clear hS; go_simp; try rfl)) ?_
      simp only [Act.put, List.setIfInBounds_toArray, List.set_cons_succ, List.set_cons_zero]
      refine plan_do rfl ?_
      go_wp2_with fail
      refine (AtHand_z (.inl rfl) h).mono ?_; rintro e w9 ⟨rfl, rfl⟩
      dsimp only
      go_step
      refine wpList_nil ?_
      change _ ∧ _
      refine ⟨H6.out.adds (Ch.refl _ _).drew, ?_⟩
      iterate 2
        refine plan_look rfl rfl (fun w0 hS => (by clear hS; go_simp; try rfl)) ?_
        simp only [Act.put, List.setIfInBounds_toArray, List.set_cons_succ, List.set_cons_zero]
      refine plan_end ?_; simp only [List.drop_succ_cons, List.drop_zero]
      go_wp2
      refine NoPanic.normal ?_
      go_wp2
      go_roundg g
      case measure => omega
      case rel => exact ⟨1, rfl, by omega, H6.out.adds (Ch.refl _ _).drew⟩
    · obtain ⟨g, rfl⟩ : ∃ g, gk = g + 1 := ⟨gk - 1, by omega⟩
      go_wp2
      refine wp_region_plan (Place9 w.heap.size (w.heap.size + 1 + 1) (w.heap.size + 1) C w) 16 [(0, false), (1, false), (2, false), (3, false), (4, false), (5, false), (6, false), (7, false), (8, false), (9, false), (10, true), (11, false), (12, false), (13, false), (14, false), (15, false)] (by kernel_rfl) (by kernel_rfl) ?_ ?_
      · exact HP.out.adds (Ch.refl _ _).drew
      iterate 3
        iterate 1 refine plan_look rfl rfl (fun w0 hS => (by go_simp; try rfl)) ?_
        simp only [Act.put, List.setIfInBounds_toArray, List.set_cons_succ, List.set_cons_zero]
      refine plan_look (v := .pointer (some ⟨w.heap.size + 1, 0, none⟩)) rfl rfl (fun w0 hS => (by obtain ⟨tt, hS⟩ := hS.2.1; have e0 := row_cell hS (i := 1) rfl; clear hS; go_simp; try rfl)) ?_
      simp only [Act.put, List.setIfInBounds_toArray, List.set_cons_succ, List.set_cons_zero]
      iterate 1 refine plan_look rfl rfl (fun w0 hS => (by go_simp; try rfl)) ?_
      simp only [Act.put, List.setIfInBounds_toArray, List.set_cons_succ, List.set_cons_zero]
      refine plan_look (v := .int .i64 h) rfl rfl (fun w0 hS => (by have e0 := row_cell hS.1 HQ.out.2.2.2; clear hS; go_simp; try rfl)) ?_
      simp only [Act.put, List.setIfInBounds_toArray, List.set_cons_succ, List.set_cons_zero]
      iterate 1 refine plan_look rfl rfl (fun w0 hS => (by go_simp; try rfl)) ?_
      simp only [Act.put, List.setIfInBounds_toArray, List.set_cons_succ, List.set_cons_zero]
      refine plan_load_part (cur := C) (t := 46) (fr := (0, 0)) rfl rfl 29 _ rfl w.heap.size 1 32 rfl (fun w0 hS => hS.1) Try.underlying29 rfl sizeP (by rw [HQ.out.1]; omega) K HQ.out.2.1 ?_
      simp only [Act.put, List.setIfInBounds_toArray, List.set_cons_succ, List.set_cons_zero]
      iterate 1 refine plan_look rfl rfl (fun w0 hS => (by go_simp; try rfl)) ?_
      simp only [Act.put, List.setIfInBounds_toArray, List.set_cons_succ, List.set_cons_zero]
      refine plan_look (v := vv) rfl rfl (fun w0 hS => (by have e0 := row_cell hS.1 HQ.out.2.2.1; clear hS; go_simp; try rfl)) ?_
      simp only [Act.put, List.setIfInBounds_toArray, List.set_cons_succ, List.set_cons_zero]
      refine plan_do rfl ?_
      go_wp2_with fail
      refine (Put_z (.inr ⟨_, rfl, (HP.out.adds (Ch.refl _ _).drew).2.2.1⟩) h K vv).mono ?_; rintro e w5 ⟨rfl, a9⟩
      have H5 := Lib.hid (Place9.adds (HP.out.adds (Ch.refl _ _).drew) a9)
      clear a9
      dsimp only
      go_step
      refine wpList_nil ?_
      change _ ∧ _
      refine ⟨H5.out, ?_⟩
      iterate 5
        refine plan_look rfl rfl (fun w0 hS => (by clear hS; go_simp; try rfl)) ?_
        simp only [Act.put, List.setIfInBounds_toArray, List.set_cons_succ, List.set_cons_zero]
      refine plan_end ?_; simp only [List.drop_succ_cons, List.drop_zero]
      go_wp2
      refine NoPanic.normal ?_
      go_wp2
      refine wp_region_plan (Place9 w.heap.size (w.heap.size + 1 + 1) (w.heap.size + 1) C w) 16 [(0, false), (1, false), (2, false), (3, false), (4, false), (5, false), (6, false), (7, false), (8, false), (9, false), (10, true), (11, false), (12, false), (13, false), (14, false), (15, false)] (by kernel_rfl) (by kernel_rfl) ?_ ?_
      · exact H5.out.adds (Ch.refl _ _).drew
      iterate 3
        iterate 1 refine plan_look rfl rfl (fun w0 hS => (by go_simp; try rfl)) ?_
        simp only [Act.put, List.setIfInBounds_toArray, List.set_cons_succ, List.set_cons_zero]
      refine plan_look (v := .pointer (some ⟨w.heap.size + 1, 0, none⟩)) rfl rfl (fun w0 hS => (by obtain ⟨tt, hS⟩ := hS.2.1; have e0 := row_cell hS (i := 1) rfl; clear hS; go_simp; try rfl)) ?_
      simp only [Act.put, List.setIfInBounds_toArray, List.set_cons_succ, List.set_cons_zero]
      iterate 1 refine plan_look rfl rfl (fun w0 hS => (by go_simp; try rfl)) ?_
      simp only [Act.put, List.setIfInBounds_toArray, List.set_cons_succ, List.set_cons_zero]
      refine plan_look (v := .int .i64 h) rfl rfl (fun w0 hS => (by have e0 := row_cell hS.1 HQ.out.2.2.2; clear hS; go_simp; try rfl)) ?_
      simp only [Act.put, List.setIfInBounds_toArray, List.set_cons_succ, List.set_cons_zero]
      iterate 1 refine plan_look rfl rfl (fun w0 hS => (by go_simp; try rfl)) ?_
      simp only [Act.put, List.setIfInBounds_toArray, List.set_cons_succ, List.set_cons_zero]
      refine plan_load_part (cur := C) (t := 46) (fr := (0, 0)) rfl rfl 29 _ rfl w.heap.size 1 32 rfl (fun w0 hS => hS.1) Try.underlying29 rfl sizeP (by rw [HQ.out.1]; omega) K HQ.out.2.1 ?_
      simp only [Act.put, List.setIfInBounds_toArray, List.set_cons_succ, List.set_cons_zero]
      iterate 1 refine plan_look rfl rfl (fun w0 hS => (by go_simp; try rfl)) ?_
      simp only [Act.put, List.setIfInBounds_toArray, List.set_cons_succ, List.set_cons_zero]
      refine plan_look (v := vv) rfl rfl (fun w0 hS => (by have e0 := row_cell hS.1 HQ.out.2.2.1; clear hS; go_simp; try rfl)) ?_
      simp only [Act.put, List.setIfInBounds_toArray, List.set_cons_succ, List.set_cons_zero]
      refine plan_do rfl ?_
      go_wp2_with fail
      refine (Cost_z (.inr ⟨_, rfl, (H5.out.adds (Ch.refl _ _).drew).2.2.1⟩) h K vv).mono ?_; rintro e w6 ⟨rfl, a9⟩
      have H6 := Lib.hid (Place9.adds (H5.out.adds (Ch.refl _ _).drew) a9)
      clear a9
      dsimp only
      go_step
      refine wpList_nil ?_
      change _ ∧ _
      refine ⟨H6.out, ?_⟩
      iterate 5
        refine plan_look rfl rfl (fun w0 hS => (by clear hS; go_simp; try rfl)) ?_
        simp only [Act.put, List.setIfInBounds_toArray, List.set_cons_succ, List.set_cons_zero]
      refine plan_end ?_; simp only [List.drop_succ_cons, List.drop_zero]
      go_wp2
      refine NoPanic.normal ?_
      go_wp2
      refine wp_region_plan (Place9 w.heap.size (w.heap.size + 1 + 1) (w.heap.size + 1) C w) 33 [(0, false), (1, false), (2, false), (3, false), (4, false), (5, false), (6, false), (7, false), (8, false), (9, false), (10, false), (11, false), (12, false), (13, false), (14, false), (15, false), (16, false), (17, false), (18, false), (19, false), (20, false), (21, true), (22, false), (23, false), (24, false), (25, false), (26, false), (27, false), (28, false), (29, false), (30, true), (31, false), (32, false)] (by kernel_rfl) (by kernel_rfl) ?_ ?_
      · exact H6.out.adds (Ch.refl _ _).drew
      iterate 15
        refine plan_look rfl rfl (fun w0 hS => (by clear hS; go_simp; try rfl)) ?_
        simp only [Act.put, List.setIfInBounds_toArray, List.set_cons_succ, List.set_cons_zero]
      iterate 1 refine plan_look rfl rfl (fun w0 hS => (by go_simp; try rfl)) ?_
      simp only [Act.put, List.setIfInBounds_toArray, List.set_cons_succ, List.set_cons_zero]
      iterate 1 refine plan_look rfl rfl (fun w0 hS => (by go_simp; try rfl)) ?_
      simp only [Act.put, List.setIfInBounds_toArray, List.set_cons_succ, List.set_cons_zero]
      iterate 1 refine plan_look rfl rfl (fun w0 hS => (by go_simp; try rfl)) ?_
      simp only [Act.put, List.setIfInBounds_toArray, List.set_cons_succ, List.set_cons_zero]
      refine plan_look (v := .pointer (some ⟨w.heap.size + 1, 0, none⟩)) rfl rfl (fun w0 hS => (by obtain ⟨tt, hS⟩ := hS.2.1; have e0 := row_cell hS (i := 1) rfl; clear hS; go_simp; try rfl)) ?_
      simp only [Act.put, List.setIfInBounds_toArray, List.set_cons_succ, List.set_cons_zero]
      iterate 1 refine plan_look rfl rfl (fun w0 hS => (by go_simp; try rfl)) ?_
      simp only [Act.put, List.setIfInBounds_toArray, List.set_cons_succ, List.set_cons_zero]
      refine plan_look (v := .int .i64 h) rfl rfl (fun w0 hS => (by have e0 := row_cell hS.1 HQ.out.2.2.2; clear hS; go_simp; try rfl)) ?_
      simp only [Act.put, List.setIfInBounds_toArray, List.set_cons_succ, List.set_cons_zero]
      refine plan_do rfl ?_
      go_wp2_with fail
      refine (Fits_z (.inr ⟨_, rfl, (H6.out.adds (Ch.refl _ _).drew).2.2.1⟩) h).mono ?_; rintro e w9 ⟨rfl, rfl⟩
      dsimp only
      go_step
      refine wpList_nil ?_
      change _ ∧ _
      refine ⟨H6.out.adds (Ch.refl _ _).drew, ?_⟩
      iterate 2
        refine plan_look rfl rfl (fun w0 hS => (by clear hS; go_simp; try rfl)) ?_
        simp only [Act.put, List.setIfInBounds_toArray, List.set_cons_succ, List.set_cons_zero]
      iterate 1 refine plan_look rfl rfl (fun w0 hS => (by go_simp; try rfl)) ?_
      simp only [Act.put, List.setIfInBounds_toArray, List.set_cons_succ, List.set_cons_zero]
      iterate 1 refine plan_look rfl rfl (fun w0 hS => (by go_simp; try rfl)) ?_
      simp only [Act.put, List.setIfInBounds_toArray, List.set_cons_succ, List.set_cons_zero]
      iterate 1 refine plan_look rfl rfl (fun w0 hS => (by go_simp; try rfl)) ?_
      simp only [Act.put, List.setIfInBounds_toArray, List.set_cons_succ, List.set_cons_zero]
      refine plan_look (v := .pointer (some ⟨w.heap.size + 1, 0, none⟩)) rfl rfl (fun w0 hS => (by obtain ⟨tt, hS⟩ := hS.2.1; have e0 := row_cell hS (i := 1) rfl; clear hS; go_simp; try rfl)) ?_
      simp only [Act.put, List.setIfInBounds_toArray, List.set_cons_succ, List.set_cons_zero]
      iterate 1 refine plan_look rfl rfl (fun w0 hS => (by go_simp; try rfl)) ?_
      simp only [Act.put, List.setIfInBounds_toArray, List.set_cons_succ, List.set_cons_zero]
      refine plan_look (v := .int .i64 h) rfl rfl (fun w0 hS => (by have e0 := row_cell hS.1 HQ.out.2.2.2; clear hS; go_simp; try rfl)) ?_
      simp only [Act.put, List.setIfInBounds_toArray, List.set_cons_succ, List.set_cons_zero]
      refine plan_do rfl ?_
      go_wp2_with fail
      refine (AtHand_z (.inr ⟨_, rfl, (H6.out.adds (Ch.refl _ _).drew).2.2.1⟩) h).mono ?_; rintro e w9 ⟨rfl, rfl⟩
      dsimp only
      go_step
      refine wpList_nil ?_
      change _ ∧ _
      refine ⟨H6.out.adds (Ch.refl _ _).drew, ?_⟩
      iterate 2
        refine plan_look rfl rfl (fun w0 hS => (by clear hS; go_simp; try rfl)) ?_
        simp only [Act.put, List.setIfInBounds_toArray, List.set_cons_succ, List.set_cons_zero]
      refine plan_end ?_; simp only [List.drop_succ_cons, List.drop_zero]
      go_wp2
      refine NoPanic.normal ?_
      go_wp2
      go_roundg g
      case measure => omega
      case rel => exact ⟨2, rfl, by omega, H6.out.adds (Ch.refl _ _).drew⟩
end Go.Proofs.Ytpeebeebakjpdaa.Law9
