/- ListNone: all is answered as of no store: the walk. -/
import Derived.Test.YtfllneenonhonaaAwake13
import Derived.Test.YtfllneenonhonaaListZ
import Derived.Test.YtfllneenonhonaaAsk13
import Derived.Test.YtfllneenonhonaaNode1
import Derived.Deep.LoopGhost
import Derived.Test.YtfllneenonhonaaPlanG
import Derived.Deep.CutRange
import Derived.Deep.DeepCutAuto
import Derived.Deep.CutBlock
namespace Go.Proofs.Ytfllneenonhonaa.Law13
open Go Go.RowKit Go.Proofs.Ytfllneenonhonaa Go.Proofs.Ytfllneenonhonaa.ShaW Go.Proofs.Ytfllneenonhonaa.Path Go.Proofs.Ytfllneenonhonaa.Store Go.Proofs.Ytfllneenonhonaa.Law9
set_option maxHeartbeats 6400000
set_option linter.unusedVariables false

def Place13 (bA bR bs : Nat) (C : Array Value) (w0 w : World) : Prop :=
  w.heap[bA]? = some (.cells C 25 (0, 0)) ∧ (∃ t, w.heap[bR]? = some (.cells #[.pointer none, .pointer (some ⟨bs, 0, none⟩)] t (0, 0))) ∧ w.heap[bs]? = some (.cells #[.pointer none] 29 (0, 0)) ∧ Adds w0 w
theorem Place13.adds {bA bR bs : Nat} {C : Array Value} {w0 w w' : World} (h : Place13 bA bR bs C w0 w) (a : Adds w w') : Place13 bA bR bs C w0 w' := ⟨a.row h.1 id, h.2.1.imp fun t ht => a.row ht id, a.row h.2.2.1 id, h.2.2.2.trans a (fun _ h => h.elim)⟩
theorem gone_none {base : Nat} {w : World} {q : Value} (h : SeqIs base w [] q) : Calls Try.prog 14 #[q, .slice none 0 0, .int .i64 0] w fun e w' => e = .returned (.bool true) ∧ Adds w w' :=
  gone_ok (l := []) h 0 ⟨(fun x hx => absurd hx List.not_mem_nil), fun i x hi => (by simp at hi)⟩ rfl (by decide) (fun x hx => absurd hx List.not_mem_nil) 0
theorem plan_gbuild_none {P : Program} {S : World → Prop} {Q : Exit → Act → World → Prop} {l : List Oper} {n i : Nat} {r : List (Nat × Bool)} {a : Act} {w : World} {o : Oper} (ho : l[i]? = some o) (hw : Region.wanted o (yielded l.toArray a.tmps) = true) (t : TypeId) (hop : o.op = .build t #[])
    (cells : Array Value) (hf : P.built t [] = some cells) (h : wpPlan P l Q S n r (a.put o.dst (.agg cells)) w) : wpPlan P l Q S n ((i, false) :: r) a w :=
  plan_look ho hw (fun w0 _ => by
    have hr := run_build (P := P) w0 t ((#[] : Array (Nat × Operand)).map fun (i, x) => (i, a.eval x)) cells (by simpa using hf)
    unfold execOp
    simp only [hop, Sem.run_bind, hr, Result.andThen_ok]
    rfl) h
set_option maxRecDepth 100000 in
theorem none_law (x : Ask13) (hk : x.key.length = 32) (ht : x.to.length = 32) (w : World) :
    Calls Try.prog 3 #[.agg x.cells] w fun e w' => e = .returned (.bool true) ∧ Adds w w' := by
  have q0 := Ask13.at_h (x := x)
  have q1 := Ask13.at_key hk
  have q2 := Ask13.at_to hk ht
  have q3 := Ask13.at_n hk ht
  have q4 := Ask13.at_most hk ht
  have qs := Ask13.size hk ht
  obtain ⟨h, key, tk, n, most⟩ := x
  simp only at hk ht q0 q1 q2 q3 q4
  obtain ⟨C, hC⟩ : ∃ C, C = Ask13.cells ⟨h, key, tk, n, most⟩ := ⟨_, rfl⟩
  rw [← hC] at q0 q1 q2 q3 q4 qs ⊢
  obtain ⟨K, hK⟩ : ∃ K, K = brow key := ⟨_, rfl⟩
  obtain ⟨T, hT⟩ : ∃ T, T = brow tk := ⟨_, rfl⟩
  rw [← hK] at q1
  rw [← hT] at q2
  obtain ⟨K0, hK0⟩ : ∃ K, K = brow (List.replicate 32 0) := ⟨_, rfl⟩
  have hb0 : Try.prog.built 23 [] = some (brow (List.replicate 32 0)) := key_built
  have hqk := neq_keys 23 Try.underlying23 (List.replicate 32 0) (List.replicate 32 0) rfl rfl
  rw [← hK0] at hb0 hqk
  simp only [decide_true, Bool.not_true] at hqk
  obtain ⟨Z, hZ⟩ : ∃ Z, Z = zPair := ⟨_, rfl⟩
  obtain ⟨hz0, hz1, hz2, _⟩ := pair_z
  have hz3 : zPair.extract 0 (0 + 32) = K0 := by rw [hK0]; rfl
  have hz4 : zPair[32]? = some (.slice none 0 0) := rfl
  rw [← hZ] at hz0 hz1 hz2 hz3 hz4
  have HZ := Lib.hid (And.intro hz0 (And.intro hz1 (And.intro hz2 (And.intro hz3 hz4))))
  have HZZ := Lib.hid hZ
  have HB := Lib.hid hb0
  have hr := heap_alloc_new w (.cells C 25)
  have HQ := Lib.hid (And.intro qs (And.intro q0 (And.intro q1 (And.intro q2 (And.intro q3 q4)))))
  clear hC hK hT hK0 hZ hz0 hz1 hz2 hz3 hz4 hb0 q0 q1 q2 q3 q4 qs hk ht
  go_enter Try.func3, Try.ntmps3
  go_wp2_with fail
  have HP0 : RowKit.Hid (∀ t, Place13 w.heap.size (w.heap.size + 1 + 1) (w.heap.size + 1) C w (((w.alloc (.cells C 25)).alloc (.cells #[.pointer none] 29)).alloc (.cells #[.pointer none, .pointer (some ⟨w.heap.size + 1, 0, none⟩)] t))) := Lib.hid (fun t => by
    refine ⟨row_alloc (row_alloc hr _) _, ⟨t, ?_⟩, row_alloc (w := (w.alloc (.cells C 25)).alloc (.cells #[.pointer none] 29)) ?_ _, (((Ch.refl _ _).alloc _).alloc _).alloc _⟩
    · have := heap_alloc_new ((w.alloc (.cells C 25)).alloc (.cells #[.pointer none] 29)) (.cells #[.pointer none, .pointer (some ⟨w.heap.size + 1, 0, none⟩)] t)
      simpa using this
    · have := heap_alloc_new (w.alloc (.cells C 25)) (.cells #[.pointer none] 29)
      simpa using this)
  clear hr
  go_loopg [4, 5, 6, 7, 8, 9, 10, 11, 12, 13, 14] 2 (fun g s4 s5 s6 s7 s8 s9 s10 s11 s12 s13 s14 wr => ∃ k : Nat, s4 = .int .i64 k ∧ k + g = 2 ∧ Place13 w.heap.size (w.heap.size + 1 + 1) (w.heap.size + 1) C w wr)
  case atStart => exact ⟨0, rfl, rfl, HP0.out _⟩
  case round =>
    obtain ⟨k, rfl, hk, hp⟩ := hrel
    have HP := Lib.hid hp
    clear hp HP0
    rcases (show k = 2 ∨ k = 0 ∨ k = 1 by omega) with rfl | rfl | rfl
    · go_wp2_with fail
      refine (awake_ok _).mono ?_; rintro e w3 ⟨rfl, a3⟩
      have H3 := Lib.hid (HP.out.adds a3)
      clear a3
      go_wp2
      go_ret
      exact ⟨rfl, H3.out.2.2.2⟩
    · obtain ⟨g, rfl⟩ : ∃ g, gk = g + 1 := ⟨gk - 1, by omega⟩
      go_wp2
      refine wp_region_plan (Place13 w.heap.size (w.heap.size + 1 + 1) (w.heap.size + 1) C w) 12 [(0, false), (1, false), (2, false), (3, false), (4, false), (5, false), (6, true), (7, false), (8, false), (9, false), (10, false), (11, false)] (by kernel_rfl) (by kernel_rfl) ?_ ?_
      · exact HP.out.adds (Ch.refl _ _).drew
      iterate 3
        refine plan_look rfl rfl (fun w0 hS => (by clear hS; go_simp; try rfl)) ?_
        simp only [Act.put, List.setIfInBounds_toArray, List.set_cons_succ, List.set_cons_zero]
      refine plan_look (v := .pointer none) rfl rfl (fun w0 hS => (by obtain ⟨tt, hS⟩ := hS.2.1; have e0 := row_cell hS (i := 0) rfl; clear hS; go_simp; try rfl)) ?_
      simp only [Act.put, List.setIfInBounds_toArray, List.set_cons_succ, List.set_cons_zero]
      iterate 1
        refine plan_look rfl rfl (fun w0 hS => (by clear hS; go_simp; try rfl)) ?_
        simp only [Act.put, List.setIfInBounds_toArray, List.set_cons_succ, List.set_cons_zero]
      refine plan_look (v := .int .i64 h) rfl rfl (fun w0 hS => (by have e0 := row_cell hS.1 HQ.out.2.1; clear hS; go_simp; try rfl)) ?_
      simp only [Act.put, List.setIfInBounds_toArray, List.set_cons_succ, List.set_cons_zero]
      refine plan_do rfl ?_
      go_wp2_with fail
      refine (LCount_z (.inl rfl) h).mono ?_; rintro e w5 ⟨rfl, a9⟩
      have H5 := Lib.hid (Place13.adds (HP.out.adds (Ch.refl _ _).drew) a9)
      clear a9
      dsimp only
      go_step
      refine wpList_nil ?_
      change _ ∧ _
      refine ⟨H5.out, ?_⟩
      iterate 5
        refine plan_look rfl rfl (fun w0 hS => (by clear hS; go_simp; try rfl)) ?_
        simp only [Act.put, List.setIfInBounds_toArray, List.set_cons_succ, List.set_cons_zero]
      refine plan_end ?_; simp only [List.drop_succ_cons, List.drop_zero]
      go_wp2
      refine NoPanic.normal ?_
      go_wp2
      refine wp_region_plan (Place13 w.heap.size (w.heap.size + 1 + 1) (w.heap.size + 1) C w) 14 [(0, false), (1, false), (2, false), (3, false), (4, false), (5, false), (6, false), (7, false), (8, true), (9, false), (10, false), (11, false), (12, false), (13, false)] (by kernel_rfl) (by kernel_rfl) ?_ ?_
      · exact H5.out.adds (Ch.refl _ _).drew
      iterate 3
        refine plan_look rfl rfl (fun w0 hS => (by clear hS; go_simp; try rfl)) ?_
        simp only [Act.put, List.setIfInBounds_toArray, List.set_cons_succ, List.set_cons_zero]
      refine plan_look (v := .pointer none) rfl rfl (fun w0 hS => (by obtain ⟨tt, hS⟩ := hS.2.1; have e0 := row_cell hS (i := 0) rfl; clear hS; go_simp; try rfl)) ?_
      simp only [Act.put, List.setIfInBounds_toArray, List.set_cons_succ, List.set_cons_zero]
      iterate 1
        refine plan_look rfl rfl (fun w0 hS => (by clear hS; go_simp; try rfl)) ?_
        simp only [Act.put, List.setIfInBounds_toArray, List.set_cons_succ, List.set_cons_zero]
      refine plan_look (v := .int .i64 h) rfl rfl (fun w0 hS => (by have e0 := row_cell hS.1 HQ.out.2.1; clear hS; go_simp; try rfl)) ?_
      simp only [Act.put, List.setIfInBounds_toArray, List.set_cons_succ, List.set_cons_zero]
      iterate 1
        refine plan_look rfl rfl (fun w0 hS => (by clear hS; go_simp; try rfl)) ?_
        simp only [Act.put, List.setIfInBounds_toArray, List.set_cons_succ, List.set_cons_zero]
      refine plan_load_part (cur := C) (t := 25) (fr := (0, 0)) rfl rfl 23 _ rfl w.heap.size 1 32 rfl (fun w0 hS => hS.1) Try.underlying23 rfl sizeP (by rw [HQ.out.1]; omega) K HQ.out.2.2.1 ?_
      simp only [Act.put, List.setIfInBounds_toArray, List.set_cons_succ, List.set_cons_zero]
      refine plan_do rfl ?_
      go_wp2_with fail
      refine (LRank_z (.inl rfl) h K).mono ?_; rintro e w6 ⟨rfl, a9⟩
      have H6 := Lib.hid (Place13.adds (H5.out.adds (Ch.refl _ _).drew) a9)
      clear a9
      dsimp only
      go_step
      refine wpList_nil ?_
      change _ ∧ _
      refine ⟨H6.out, ?_⟩
      iterate 5
        refine plan_look rfl rfl (fun w0 hS => (by clear hS; go_simp; try rfl)) ?_
        simp only [Act.put, List.setIfInBounds_toArray, List.set_cons_succ, List.set_cons_zero]
      refine plan_end ?_; simp only [List.drop_succ_cons, List.drop_zero]
      go_wp2
      refine NoPanic.normal ?_
      go_upto_region 7 with fail
      try simp only [Act.put]
      go_cut [9, 10] (fun s9 s10 wx => ∃ b, s9 = .pointer (some ⟨b, 0, none⟩) ∧ s10 = .int .i64 1 ∧ wx.heap[b]? = some (.cells Z 37 (0, 0)) ∧ Place13 w.heap.size (w.heap.size + 1 + 1) (w.heap.size + 1) C w wx)
      case first =>
        refine wp_region_planG 12 (Place13 w.heap.size (w.heap.size + 1 + 1) (w.heap.size + 1) C w) 14 [(0, false), (1, false), (2, false), (3, false), (4, false), (5, false), (6, false), (7, false), (8, true), (9, false), (10, false), (11, false)] [(13, true)] (by kernel_rfl) (by kernel_rfl) ?_ ?_
        · exact H6.out.adds (Ch.refl _ _).drew
        iterate 3
          refine planG_look rfl rfl (fun w0 hS => (by clear hS; go_simp; try rfl)) ?_
          simp only [Act.put, List.setIfInBounds_toArray, List.set_cons_succ, List.set_cons_zero]
        refine planG_look (v := .pointer none) rfl rfl (fun w0 hS => (by obtain ⟨tt, hS⟩ := hS.2.1; have e0 := row_cell hS (i := 0) rfl; clear hS; go_simp; try rfl)) ?_
        simp only [Act.put, List.setIfInBounds_toArray, List.set_cons_succ, List.set_cons_zero]
        iterate 1
          refine planG_look rfl rfl (fun w0 hS => (by clear hS; go_simp; try rfl)) ?_
          simp only [Act.put, List.setIfInBounds_toArray, List.set_cons_succ, List.set_cons_zero]
        refine planG_look (v := .int .i64 h) rfl rfl (fun w0 hS => (by have e0 := row_cell hS.1 HQ.out.2.1; clear hS; go_simp; try rfl)) ?_
        simp only [Act.put, List.setIfInBounds_toArray, List.set_cons_succ, List.set_cons_zero]
        iterate 1
          refine planG_look rfl rfl (fun w0 hS => (by clear hS; go_simp; try rfl)) ?_
          simp only [Act.put, List.setIfInBounds_toArray, List.set_cons_succ, List.set_cons_zero]
        refine planG_look (v := .int .i64 n) rfl rfl (fun w0 hS => (by have e0 := row_cell hS.1 HQ.out.2.2.2.2.1; clear hS; go_simp; try rfl)) ?_
        simp only [Act.put, List.setIfInBounds_toArray, List.set_cons_succ, List.set_cons_zero]
        refine planG_do rfl rfl ?_ ?_
        · go_wp2_with fail
          refine (LNth_z (.inl rfl) h n).mono ?_; rintro e w7 ⟨rfl, a9⟩
          rw [← HZZ.out]
          have H7 := Lib.hid (Place13.adds (H6.out.adds (Ch.refl _ _).drew) a9)
          clear a9
          dsimp only
          go_step
          refine wpList_nil ?_
          change _ ∧ _
          refine ⟨H7.out, ?_⟩
          iterate 3
            refine planG_look rfl rfl (fun w0 hS => (by clear hS; go_simp; try rfl)) ?_
            simp only [Act.put, List.setIfInBounds_toArray, List.set_cons_succ, List.set_cons_zero]
          refine planG_last rfl ?_
          go_wp2_with (first
            | fail
            | ((with_reducible show wpList _ _ _ (⟨_, .alloc 37, _, _, _, _⟩ :: _) _ _); refine wpList_alloc_is rfl 37 rfl (.agg Z) HZ.out.1 ?_; dsimp only [Value.cells]; try simp only [World.size_alloc]))
          refine ⟨H7.out.adds ((Ch.refl _ _).alloc _), ?_⟩
          refine plan_do rfl ?_
          go_wp2_with (first
            | fail
            | ((with_reducible show wpList _ _ _ (⟨_, .store 37 _ _, _, _, _, _⟩ :: _) _ _); refine wpList_store_part rfl 37 _ _ rfl w7.heap.size 0 Z rfl rfl (heap_alloc_new _ _) (by rw [sizePr, HZ.out.2.1]) (by omega) HZ.out.2.2.1 Z (by rw [splice_all _ _ rfl]) ?_))
          refine ⟨H7.out.adds (((Ch.refl _ _).alloc _).setRow (.inr (Nat.le_refl _)) _), ?_⟩
          refine plan_end ?_; simp only [List.drop_succ_cons, List.drop_zero]
          go_wp2
          refine NoPanic.normal ?_
          go_wp2
          go_meet
          case rel => exact ⟨w7.heap.size, rfl, rfl, row_setRow_same (heap_alloc_new _ _) _, H7.out.adds (((Ch.refl _ _).alloc _).setRow (.inr (Nat.le_refl _)) _)⟩
        · go_wp2_with (first
            | fail
            | ((with_reducible show wpList _ _ _ (⟨_, .alloc 37, _, _, _, _⟩ :: _) _ _); refine wpList_alloc_is rfl 37 rfl (.agg Z) HZ.out.1 ?_; dsimp only [Value.cells]; try simp only [World.size_alloc]))
          refine ⟨(H6.out.adds (Ch.refl _ _).drew).adds ((Ch.refl _ _).alloc _), ?_⟩
          refine plan_do rfl ?_
          go_wp2_with fail
          refine (LNth_z (.inl rfl) h n).mono ?_; rintro e w7 ⟨rfl, a9⟩
          rw [← HZZ.out]
          have H7 := Lib.hid (And.intro (Place13.adds ((H6.out.adds (Ch.refl _ _).drew).adds ((Ch.refl _ _).alloc (.cells Z 37))) a9) (And.intro (a9.row (heap_alloc_new w6.drew (.cells Z 37)) id) a9.size))
          have H7a : RowKit.Hid (∀ Z', Place13 w.heap.size (w.heap.size + 1 + 1) (w.heap.size + 1) C w (w7.setRow w6.drew.heap.size Z')) := Lib.hid (fun Z' => Place13.adds (H6.out.adds (Ch.refl _ _).drew) (((Ch.refl (fun _ => False) w6.drew).alloc (.cells Z 37)).trans a9 (fun _ h => h.elim) |>.setRow (.inr (Nat.le_refl _)) Z'))
          clear a9
          dsimp only
          go_step
          refine wpList_nil ?_
          change _ ∧ _
          refine ⟨H7.out.1, ?_⟩
          iterate 3
            refine plan_look rfl rfl (fun w0 hS => (by clear hS; go_simp; try rfl)) ?_
            simp only [Act.put, List.setIfInBounds_toArray, List.set_cons_succ, List.set_cons_zero]
          refine plan_do rfl ?_
          go_wp2_with (first
            | fail
            | ((with_reducible show wpList _ _ _ (⟨_, .store 37 _ _, _, _, _, _⟩ :: _) _ _); refine wpList_store_part rfl 37 _ _ rfl w6.drew.heap.size 0 Z rfl rfl H7.out.2.1 (by rw [sizePr, HZ.out.2.1]) (by omega) HZ.out.2.2.1 Z (by rw [splice_all _ _ rfl]) ?_))
          refine ⟨H7a.out Z, ?_⟩
          refine plan_end ?_; simp only [List.drop_succ_cons, List.drop_zero]
          go_wp2
          refine NoPanic.normal ?_
          go_wp2
          go_meet
          case rel => exact ⟨w6.drew.heap.size, rfl, rfl, row_setRow_same H7.out.2.1 _, H7a.out Z⟩
      case rest =>
        obtain ⟨b, rfl, rfl, r9, h9⟩ := hcut
        have H9 := Lib.hid h9
        have R9 := Lib.hid r9
        clear r9 h9
        go_wp2
        refine wp_region_plan (Place13 w.heap.size (w.heap.size + 1 + 1) (w.heap.size + 1) C w) 16 [(0, false), (1, false), (2, false), (3, false), (4, false), (5, false), (6, false), (7, false), (8, false), (9, false), (10, true), (11, false), (12, false), (13, false), (14, false), (15, false)] (by kernel_rfl) (by kernel_rfl) ?_ ?_
        · exact H9.out.adds (Ch.refl _ _).drew
        iterate 3
          refine plan_look rfl rfl (fun w0 hS => (by clear hS; go_simp; try rfl)) ?_
          simp only [Act.put, List.setIfInBounds_toArray, List.set_cons_succ, List.set_cons_zero]
        refine plan_look (v := .pointer none) rfl rfl (fun w0 hS => (by obtain ⟨tt, hS⟩ := hS.2.1; have e0 := row_cell hS (i := 0) rfl; clear hS; go_simp; try rfl)) ?_
        simp only [Act.put, List.setIfInBounds_toArray, List.set_cons_succ, List.set_cons_zero]
        iterate 1
          refine plan_look rfl rfl (fun w0 hS => (by clear hS; go_simp; try rfl)) ?_
          simp only [Act.put, List.setIfInBounds_toArray, List.set_cons_succ, List.set_cons_zero]
        refine plan_look (v := .int .i64 h) rfl rfl (fun w0 hS => (by have e0 := row_cell hS.1 HQ.out.2.1; clear hS; go_simp; try rfl)) ?_
        simp only [Act.put, List.setIfInBounds_toArray, List.set_cons_succ, List.set_cons_zero]
        iterate 1
          refine plan_look rfl rfl (fun w0 hS => (by clear hS; go_simp; try rfl)) ?_
          simp only [Act.put, List.setIfInBounds_toArray, List.set_cons_succ, List.set_cons_zero]
        refine plan_load_part (cur := C) (t := 25) (fr := (0, 0)) rfl rfl 23 _ rfl w.heap.size 1 32 rfl (fun w0 hS => hS.1) Try.underlying23 rfl sizeP (by rw [HQ.out.1]; omega) K HQ.out.2.2.1 ?_
        simp only [Act.put, List.setIfInBounds_toArray, List.set_cons_succ, List.set_cons_zero]
        iterate 1
          refine plan_look rfl rfl (fun w0 hS => (by clear hS; go_simp; try rfl)) ?_
          simp only [Act.put, List.setIfInBounds_toArray, List.set_cons_succ, List.set_cons_zero]
        refine plan_load_part (cur := C) (t := 25) (fr := (0, 0)) rfl rfl 23 _ rfl w.heap.size 33 32 rfl (fun w0 hS => hS.1) Try.underlying23 rfl sizeP (by rw [HQ.out.1]; omega) T HQ.out.2.2.2.1 ?_
        simp only [Act.put, List.setIfInBounds_toArray, List.set_cons_succ, List.set_cons_zero]
        have R9d := Lib.hid (row_drew R9.out)
        refine plan_do rfl ?_
        go_wp2_with fail
        refine (LBetween_z (.inl rfl) h K T).mono ?_; rintro e wa ⟨rfl, a9⟩
        have HA := Lib.hid (Place13.adds (H9.out.adds (Ch.refl _ _).drew) a9)
        have RA := Lib.hid (a9.row R9d.out id)
        clear a9
        dsimp only
        go_step
        refine wpList_nil ?_
        change _ ∧ _
        refine ⟨HA.out, ?_⟩
        iterate 5
          refine plan_look rfl rfl (fun w0 hS => (by clear hS; go_simp; try rfl)) ?_
          simp only [Act.put, List.setIfInBounds_toArray, List.set_cons_succ, List.set_cons_zero]
        refine plan_end ?_; simp only [List.drop_succ_cons, List.drop_zero]
        go_wp2
        refine NoPanic.normal ?_
        go_wp2
        refine wp_region_plan (Place13 w.heap.size (w.heap.size + 1 + 1) (w.heap.size + 1) C w) 16 [(0, false), (1, false), (2, false), (3, false), (4, false), (5, false), (6, false), (7, false), (8, false), (9, false), (10, true), (11, false), (12, false), (13, false), (14, false), (15, false)] (by kernel_rfl) (by kernel_rfl) ?_ ?_
        · exact HA.out.adds (Ch.refl _ _).drew
        iterate 3
          refine plan_look rfl rfl (fun w0 hS => (by clear hS; go_simp; try rfl)) ?_
          simp only [Act.put, List.setIfInBounds_toArray, List.set_cons_succ, List.set_cons_zero]
        refine plan_look (v := .pointer none) rfl rfl (fun w0 hS => (by obtain ⟨tt, hS⟩ := hS.2.1; have e0 := row_cell hS (i := 0) rfl; clear hS; go_simp; try rfl)) ?_
        simp only [Act.put, List.setIfInBounds_toArray, List.set_cons_succ, List.set_cons_zero]
        iterate 1
          refine plan_look rfl rfl (fun w0 hS => (by clear hS; go_simp; try rfl)) ?_
          simp only [Act.put, List.setIfInBounds_toArray, List.set_cons_succ, List.set_cons_zero]
        refine plan_look (v := .int .i64 h) rfl rfl (fun w0 hS => (by have e0 := row_cell hS.1 HQ.out.2.1; clear hS; go_simp; try rfl)) ?_
        simp only [Act.put, List.setIfInBounds_toArray, List.set_cons_succ, List.set_cons_zero]
        iterate 1
          refine plan_look rfl rfl (fun w0 hS => (by clear hS; go_simp; try rfl)) ?_
          simp only [Act.put, List.setIfInBounds_toArray, List.set_cons_succ, List.set_cons_zero]
        refine plan_load_part (cur := C) (t := 25) (fr := (0, 0)) rfl rfl 23 _ rfl w.heap.size 1 32 rfl (fun w0 hS => hS.1) Try.underlying23 rfl sizeP (by rw [HQ.out.1]; omega) K HQ.out.2.2.1 ?_
        simp only [Act.put, List.setIfInBounds_toArray, List.set_cons_succ, List.set_cons_zero]
        iterate 1
          refine plan_look rfl rfl (fun w0 hS => (by clear hS; go_simp; try rfl)) ?_
          simp only [Act.put, List.setIfInBounds_toArray, List.set_cons_succ, List.set_cons_zero]
        refine plan_look (v := .int .i64 most) rfl rfl (fun w0 hS => (by have e0 := row_cell hS.1 HQ.out.2.2.2.2.2; clear hS; go_simp; try rfl)) ?_
        simp only [Act.put, List.setIfInBounds_toArray, List.set_cons_succ, List.set_cons_zero]
        have RAd := Lib.hid (row_drew RA.out)
        refine plan_do rfl ?_
        go_wp2_with fail
        refine (LSome_z (.inl rfl) h most K).mono ?_; rintro e wb ⟨rfl, a9⟩
        have HBB := Lib.hid (Place13.adds (HA.out.adds (Ch.refl _ _).drew) a9)
        have RB := Lib.hid (a9.row RAd.out id)
        clear a9
        dsimp only
        go_step
        refine wpList_nil ?_
        change _ ∧ _
        refine ⟨HBB.out, ?_⟩
        iterate 5
          refine plan_look rfl rfl (fun w0 hS => (by clear hS; go_simp; try rfl)) ?_
          simp only [Act.put, List.setIfInBounds_toArray, List.set_cons_succ, List.set_cons_zero]
        refine plan_end ?_; simp only [List.drop_succ_cons, List.drop_zero]
        go_wp2
        refine NoPanic.normal ?_
        go_wp2
        refine wp_region_plan (fun wz => Place13 w.heap.size (w.heap.size + 1 + 1) (w.heap.size + 1) C w wz ∧ wz.heap[b]? = some (.cells Z 37 (0, 0))) 63 [(0, false), (1, false), (2, false), (3, false), (4, false), (5, false), (6, false), (7, false), (8, false), (9, false), (10, false), (11, false), (12, false), (13, false), (14, false), (15, false), (16, false), (17, false), (18, false), (19, false), (20, false), (21, false), (22, false), (23, false), (24, false), (25, false), (26, false), (27, false), (28, false), (29, false), (30, false), (31, false), (32, false), (33, false), (34, false), (35, false), (36, false), (37, false), (38, false), (39, false), (40, false), (41, false), (42, false), (43, false), (44, false), (45, false), (46, true), (47, true), (48, false), (49, false), (50, false), (51, false), (52, false), (53, false), (54, false), (55, false), (56, false), (57, false), (58, false), (59, true), (60, true), (61, false), (62, false)] (by kernel_rfl) (by kernel_rfl) ?_ ?_
        · exact ⟨HBB.out.adds (Ch.refl _ _).drew, row_drew RB.out⟩
        iterate 9
          refine plan_look rfl rfl (fun w0 hS => (by clear hS; go_simp; try rfl)) ?_
          simp only [Act.put, List.setIfInBounds_toArray, List.set_cons_succ, List.set_cons_zero]
        refine plan_look (v := .slice none 0 0) rfl rfl (fun w0 hS => (by have e0 := row_cell hS.2 HZ.out.2.2.2.2; clear hS; go_simp; try rfl)) ?_
        simp only [Act.put, List.setIfInBounds_toArray, List.set_cons_succ, List.set_cons_zero]
        iterate 3
          refine plan_look rfl rfl (fun w0 hS => (by clear hS; go_simp; try rfl)) ?_
          simp only [Act.put, List.setIfInBounds_toArray, List.set_cons_succ, List.set_cons_zero]
        refine plan_look (v := .bool false) rfl rfl (fun w0 hS => (by clear hS; go_simp; try rfl)) ?_
        simp only [Act.put, List.setIfInBounds_toArray, List.set_cons_succ, List.set_cons_zero]
        iterate 1
          refine plan_look rfl rfl (fun w0 hS => (by clear hS; go_simp; try rfl)) ?_
          simp only [Act.put, List.setIfInBounds_toArray, List.set_cons_succ, List.set_cons_zero]
        refine Law9.plan_gload_part (cur := Z) (t := 37) (fr := (0, 0)) rfl rfl 23 _ rfl b 0 32 rfl (fun w0 hS => hS.2) Try.underlying23 rfl sizeP (by rw [HZ.out.2.1]; omega) K0 HZ.out.2.2.2.1 ?_
        simp only [Act.put, List.setIfInBounds_toArray, List.set_cons_succ, List.set_cons_zero]
        refine plan_gbuild_none rfl rfl 23 rfl K0 HB.out ?_
        simp only [Act.put, List.setIfInBounds_toArray, List.set_cons_succ, List.set_cons_zero]
        refine plan_look (v := .bool false) rfl rfl (fun w0 hS => (by clear hS; have := hqk w0; go_simp; try rfl)) ?_
        simp only [Act.put, List.setIfInBounds_toArray, List.set_cons_succ, List.set_cons_zero]
        refine plan_look (v := .bool false) rfl rfl (fun w0 hS => (by clear hS; go_simp; try rfl)) ?_
        simp only [Act.put, List.setIfInBounds_toArray, List.set_cons_succ, List.set_cons_zero]
        refine plan_look (v := .bool false) rfl rfl (fun w0 hS => (by clear hS; go_simp; try rfl)) ?_
        simp only [Act.put, List.setIfInBounds_toArray, List.set_cons_succ, List.set_cons_zero]
        iterate 2
          refine plan_look rfl rfl (fun w0 hS => (by clear hS; go_simp; try rfl)) ?_
          simp only [Act.put, List.setIfInBounds_toArray, List.set_cons_succ, List.set_cons_zero]
        iterate 2
          refine plan_look (v := .bool false) rfl rfl (fun w0 hS => (by clear hS; go_simp; try rfl)) ?_
          simp only [Act.put, List.setIfInBounds_toArray, List.set_cons_succ, List.set_cons_zero]
        iterate 2
          refine plan_look rfl rfl (fun w0 hS => (by clear hS; go_simp; try rfl)) ?_
          simp only [Act.put, List.setIfInBounds_toArray, List.set_cons_succ, List.set_cons_zero]
        iterate 2
          refine plan_look (v := .bool false) rfl rfl (fun w0 hS => (by clear hS; go_simp; try rfl)) ?_
          simp only [Act.put, List.setIfInBounds_toArray, List.set_cons_succ, List.set_cons_zero]
        iterate 2
          refine plan_look rfl rfl (fun w0 hS => (by clear hS; go_simp; try rfl)) ?_
          simp only [Act.put, List.setIfInBounds_toArray, List.set_cons_succ, List.set_cons_zero]
        iterate 2
          refine plan_look (v := .bool false) rfl rfl (fun w0 hS => (by clear hS; go_simp; try rfl)) ?_
          simp only [Act.put, List.setIfInBounds_toArray, List.set_cons_succ, List.set_cons_zero]
        iterate 2
          refine plan_look rfl rfl (fun w0 hS => (by clear hS; go_simp; try rfl)) ?_
          simp only [Act.put, List.setIfInBounds_toArray, List.set_cons_succ, List.set_cons_zero]
        iterate 2
          refine plan_look (v := .bool false) rfl rfl (fun w0 hS => (by clear hS; go_simp; try rfl)) ?_
          simp only [Act.put, List.setIfInBounds_toArray, List.set_cons_succ, List.set_cons_zero]
        iterate 2
          refine plan_look rfl rfl (fun w0 hS => (by clear hS; go_simp; try rfl)) ?_
          simp only [Act.put, List.setIfInBounds_toArray, List.set_cons_succ, List.set_cons_zero]
        iterate 2
          refine plan_look (v := .bool false) rfl rfl (fun w0 hS => (by clear hS; go_simp; try rfl)) ?_
          simp only [Act.put, List.setIfInBounds_toArray, List.set_cons_succ, List.set_cons_zero]
        iterate 3
          refine plan_look rfl rfl (fun w0 hS => (by clear hS; go_simp; try rfl)) ?_
          simp only [Act.put, List.setIfInBounds_toArray, List.set_cons_succ, List.set_cons_zero]
        refine plan_look (v := .pointer none) rfl rfl (fun w0 hS => (by obtain ⟨tt, hS⟩ := hS.1.2.1; have e0 := row_cell hS (i := 0) rfl; clear hS; go_simp; try rfl)) ?_
        simp only [Act.put, List.setIfInBounds_toArray, List.set_cons_succ, List.set_cons_zero]
        iterate 1
          refine plan_look rfl rfl (fun w0 hS => (by clear hS; go_simp; try rfl)) ?_
          simp only [Act.put, List.setIfInBounds_toArray, List.set_cons_succ, List.set_cons_zero]
        refine plan_look (v := .int .i64 h) rfl rfl (fun w0 hS => (by have e0 := row_cell hS.1.1 HQ.out.2.1; clear hS; go_simp; try rfl)) ?_
        simp only [Act.put, List.setIfInBounds_toArray, List.set_cons_succ, List.set_cons_zero]
        refine plan_do rfl ?_
        go_wp2_with fail
        refine (LAll_z (.inl rfl) h).mono ?_; rintro e wc ⟨q, rfl, hq, a9⟩
        have HC := Lib.hid (Place13.adds (HBB.out.adds (Ch.refl _ _).drew) a9)
        have RC := Lib.hid (a9.row (row_drew RB.out) id)
        obtain ⟨bq, rfl⟩ := seq_form hq
        have HSQ := Lib.hid hq
        clear hq a9
        dsimp only
        go_step
        refine wpList_nil ?_
        change _ ∧ _
        refine ⟨⟨HC.out, RC.out⟩, ?_⟩
        refine plan_do rfl ?_
        go_wp2_with fail
        refine (gone_none HSQ.out).mono ?_; rintro e wd ⟨rfl, a9⟩
        have HD := Lib.hid (Place13.adds (HC.out) a9)
        have RD := Lib.hid (a9.row (RC.out) id)
        clear a9
        dsimp only
        go_step
        refine wpList_nil ?_
        change _ ∧ _
        refine ⟨⟨HD.out, RD.out⟩, ?_⟩
        iterate 3
          refine plan_look (v := .bool false) rfl rfl (fun w0 hS => (by clear hS; go_simp; try rfl)) ?_
          simp only [Act.put, List.setIfInBounds_toArray, List.set_cons_succ, List.set_cons_zero]
        iterate 3
          refine plan_look rfl rfl (fun w0 hS => (by clear hS; go_simp; try rfl)) ?_
          simp only [Act.put, List.setIfInBounds_toArray, List.set_cons_succ, List.set_cons_zero]
        refine plan_look (v := .pointer none) rfl rfl (fun w0 hS => (by obtain ⟨tt, hS⟩ := hS.1.2.1; have e0 := row_cell hS (i := 0) rfl; clear hS; go_simp; try rfl)) ?_
        simp only [Act.put, List.setIfInBounds_toArray, List.set_cons_succ, List.set_cons_zero]
        iterate 1
          refine plan_look rfl rfl (fun w0 hS => (by clear hS; go_simp; try rfl)) ?_
          simp only [Act.put, List.setIfInBounds_toArray, List.set_cons_succ, List.set_cons_zero]
        refine plan_look (v := .int .i64 h) rfl rfl (fun w0 hS => (by have e0 := row_cell hS.1.1 HQ.out.2.1; clear hS; go_simp; try rfl)) ?_
        simp only [Act.put, List.setIfInBounds_toArray, List.set_cons_succ, List.set_cons_zero]
        iterate 1
          refine plan_look rfl rfl (fun w0 hS => (by clear hS; go_simp; try rfl)) ?_
          simp only [Act.put, List.setIfInBounds_toArray, List.set_cons_succ, List.set_cons_zero]
        refine Law9.plan_gload_part (cur := C) (t := 25) (fr := (0, 0)) rfl rfl 23 _ rfl w.heap.size 1 32 rfl (fun w0 hS => hS.1.1) Try.underlying23 rfl sizeP (by rw [HQ.out.1]; omega) K HQ.out.2.2.1 ?_
        simp only [Act.put, List.setIfInBounds_toArray, List.set_cons_succ, List.set_cons_zero]
        refine plan_do rfl ?_
        go_wp2_with fail
        refine (LFrom_z (.inl rfl) h K).mono ?_; rintro e we ⟨q, rfl, hq, a9⟩
        have HE := Lib.hid (Place13.adds (HD.out) a9)
        have RE := Lib.hid (a9.row (RD.out) id)
        obtain ⟨bq2, rfl⟩ := seq_form hq
        have HSQ2 := Lib.hid hq
        clear hq a9
        dsimp only
        go_step
        refine wpList_nil ?_
        change _ ∧ _
        refine ⟨⟨HE.out, RE.out⟩, ?_⟩
        refine plan_do rfl ?_
        go_wp2_with fail
        refine (gone_none HSQ2.out).mono ?_; rintro e wf ⟨rfl, a9⟩
        have HF := Lib.hid (Place13.adds (HE.out) a9)
        have RF := Lib.hid (a9.row (RE.out) id)
        clear a9
        dsimp only
        go_step
        refine wpList_nil ?_
        change _ ∧ _
        refine ⟨⟨HF.out, RF.out⟩, ?_⟩
        iterate 2
          refine plan_look (v := .bool false) rfl rfl (fun w0 hS => (by clear hS; go_simp; try rfl)) ?_
          simp only [Act.put, List.setIfInBounds_toArray, List.set_cons_succ, List.set_cons_zero]
        refine plan_end ?_; simp only [List.drop_succ_cons, List.drop_zero]
        go_wp2
        refine NoPanic.normal ?_
        go_wp2
        go_roundg g
        case measure => omega
        case rel => exact ⟨1, rfl, by omega, HF.out⟩
    · obtain ⟨g, rfl⟩ : ∃ g, gk = g + 1 := ⟨gk - 1, by omega⟩
      go_wp2
      refine wp_region_plan (Place13 w.heap.size (w.heap.size + 1 + 1) (w.heap.size + 1) C w) 12 [(0, false), (1, false), (2, false), (3, false), (4, false), (5, false), (6, true), (7, false), (8, false), (9, false), (10, false), (11, false)] (by kernel_rfl) (by kernel_rfl) ?_ ?_
      · exact HP.out.adds (Ch.refl _ _).drew
      iterate 3
        refine plan_look rfl rfl (fun w0 hS => (by clear hS; go_simp; try rfl)) ?_
        simp only [Act.put, List.setIfInBounds_toArray, List.set_cons_succ, List.set_cons_zero]
      refine plan_look (v := .pointer (some ⟨w.heap.size + 1, 0, none⟩)) rfl rfl (fun w0 hS => (by obtain ⟨tt, hS⟩ := hS.2.1; have e0 := row_cell hS (i := 1) rfl; clear hS; go_simp; try rfl)) ?_
      simp only [Act.put, List.setIfInBounds_toArray, List.set_cons_succ, List.set_cons_zero]
      iterate 1
        refine plan_look rfl rfl (fun w0 hS => (by clear hS; go_simp; try rfl)) ?_
        simp only [Act.put, List.setIfInBounds_toArray, List.set_cons_succ, List.set_cons_zero]
      refine plan_look (v := .int .i64 h) rfl rfl (fun w0 hS => (by have e0 := row_cell hS.1 HQ.out.2.1; clear hS; go_simp; try rfl)) ?_
      simp only [Act.put, List.setIfInBounds_toArray, List.set_cons_succ, List.set_cons_zero]
      refine plan_do rfl ?_
      go_wp2_with fail
      refine (LCount_z (.inr ⟨_, rfl, (HP.out.adds (Ch.refl _ _).drew).2.2.1⟩) h).mono ?_; rintro e w5 ⟨rfl, a9⟩
      have H5 := Lib.hid (Place13.adds (HP.out.adds (Ch.refl _ _).drew) a9)
      clear a9
      dsimp only
      go_step
      refine wpList_nil ?_
      change _ ∧ _
      refine ⟨H5.out, ?_⟩
      iterate 5
        refine plan_look rfl rfl (fun w0 hS => (by clear hS; go_simp; try rfl)) ?_
        simp only [Act.put, List.setIfInBounds_toArray, List.set_cons_succ, List.set_cons_zero]
      refine plan_end ?_; simp only [List.drop_succ_cons, List.drop_zero]
      go_wp2
      refine NoPanic.normal ?_
      go_wp2
      refine wp_region_plan (Place13 w.heap.size (w.heap.size + 1 + 1) (w.heap.size + 1) C w) 14 [(0, false), (1, false), (2, false), (3, false), (4, false), (5, false), (6, false), (7, false), (8, true), (9, false), (10, false), (11, false), (12, false), (13, false)] (by kernel_rfl) (by kernel_rfl) ?_ ?_
      · exact H5.out.adds (Ch.refl _ _).drew
      iterate 3
        refine plan_look rfl rfl (fun w0 hS => (by clear hS; go_simp; try rfl)) ?_
        simp only [Act.put, List.setIfInBounds_toArray, List.set_cons_succ, List.set_cons_zero]
      refine plan_look (v := .pointer (some ⟨w.heap.size + 1, 0, none⟩)) rfl rfl (fun w0 hS => (by obtain ⟨tt, hS⟩ := hS.2.1; have e0 := row_cell hS (i := 1) rfl; clear hS; go_simp; try rfl)) ?_
      simp only [Act.put, List.setIfInBounds_toArray, List.set_cons_succ, List.set_cons_zero]
      iterate 1
        refine plan_look rfl rfl (fun w0 hS => (by clear hS; go_simp; try rfl)) ?_
        simp only [Act.put, List.setIfInBounds_toArray, List.set_cons_succ, List.set_cons_zero]
      refine plan_look (v := .int .i64 h) rfl rfl (fun w0 hS => (by have e0 := row_cell hS.1 HQ.out.2.1; clear hS; go_simp; try rfl)) ?_
      simp only [Act.put, List.setIfInBounds_toArray, List.set_cons_succ, List.set_cons_zero]
      iterate 1
        refine plan_look rfl rfl (fun w0 hS => (by clear hS; go_simp; try rfl)) ?_
        simp only [Act.put, List.setIfInBounds_toArray, List.set_cons_succ, List.set_cons_zero]
      refine plan_load_part (cur := C) (t := 25) (fr := (0, 0)) rfl rfl 23 _ rfl w.heap.size 1 32 rfl (fun w0 hS => hS.1) Try.underlying23 rfl sizeP (by rw [HQ.out.1]; omega) K HQ.out.2.2.1 ?_
      simp only [Act.put, List.setIfInBounds_toArray, List.set_cons_succ, List.set_cons_zero]
      refine plan_do rfl ?_
      go_wp2_with fail
      refine (LRank_z (.inr ⟨_, rfl, (H5.out.adds (Ch.refl _ _).drew).2.2.1⟩) h K).mono ?_; rintro e w6 ⟨rfl, a9⟩
      have H6 := Lib.hid (Place13.adds (H5.out.adds (Ch.refl _ _).drew) a9)
      clear a9
      dsimp only
      go_step
      refine wpList_nil ?_
      change _ ∧ _
      refine ⟨H6.out, ?_⟩
      iterate 5
        refine plan_look rfl rfl (fun w0 hS => (by clear hS; go_simp; try rfl)) ?_
        simp only [Act.put, List.setIfInBounds_toArray, List.set_cons_succ, List.set_cons_zero]
      refine plan_end ?_; simp only [List.drop_succ_cons, List.drop_zero]
      go_wp2
      refine NoPanic.normal ?_
      go_upto_region 7 with fail
      try simp only [Act.put]
      go_cut [9, 10] (fun s9 s10 wx => ∃ b, s9 = .pointer (some ⟨b, 0, none⟩) ∧ s10 = .int .i64 1 ∧ wx.heap[b]? = some (.cells Z 37 (0, 0)) ∧ Place13 w.heap.size (w.heap.size + 1 + 1) (w.heap.size + 1) C w wx)
      case first =>
        refine wp_region_planG 12 (Place13 w.heap.size (w.heap.size + 1 + 1) (w.heap.size + 1) C w) 14 [(0, false), (1, false), (2, false), (3, false), (4, false), (5, false), (6, false), (7, false), (8, true), (9, false), (10, false), (11, false)] [(13, true)] (by kernel_rfl) (by kernel_rfl) ?_ ?_
        · exact H6.out.adds (Ch.refl _ _).drew
        iterate 3
          refine planG_look rfl rfl (fun w0 hS => (by clear hS; go_simp; try rfl)) ?_
          simp only [Act.put, List.setIfInBounds_toArray, List.set_cons_succ, List.set_cons_zero]
        refine planG_look (v := .pointer (some ⟨w.heap.size + 1, 0, none⟩)) rfl rfl (fun w0 hS => (by obtain ⟨tt, hS⟩ := hS.2.1; have e0 := row_cell hS (i := 1) rfl; clear hS; go_simp; try rfl)) ?_
        simp only [Act.put, List.setIfInBounds_toArray, List.set_cons_succ, List.set_cons_zero]
        iterate 1
          refine planG_look rfl rfl (fun w0 hS => (by clear hS; go_simp; try rfl)) ?_
          simp only [Act.put, List.setIfInBounds_toArray, List.set_cons_succ, List.set_cons_zero]
        refine planG_look (v := .int .i64 h) rfl rfl (fun w0 hS => (by have e0 := row_cell hS.1 HQ.out.2.1; clear hS; go_simp; try rfl)) ?_
        simp only [Act.put, List.setIfInBounds_toArray, List.set_cons_succ, List.set_cons_zero]
        iterate 1
          refine planG_look rfl rfl (fun w0 hS => (by clear hS; go_simp; try rfl)) ?_
          simp only [Act.put, List.setIfInBounds_toArray, List.set_cons_succ, List.set_cons_zero]
        refine planG_look (v := .int .i64 n) rfl rfl (fun w0 hS => (by have e0 := row_cell hS.1 HQ.out.2.2.2.2.1; clear hS; go_simp; try rfl)) ?_
        simp only [Act.put, List.setIfInBounds_toArray, List.set_cons_succ, List.set_cons_zero]
        refine planG_do rfl rfl ?_ ?_
        · go_wp2_with fail
          refine (LNth_z (.inr ⟨_, rfl, (H6.out.adds (Ch.refl _ _).drew).2.2.1⟩) h n).mono ?_; rintro e w7 ⟨rfl, a9⟩
          rw [← HZZ.out]
          have H7 := Lib.hid (Place13.adds (H6.out.adds (Ch.refl _ _).drew) a9)
          clear a9
          dsimp only
          go_step
          refine wpList_nil ?_
          change _ ∧ _
          refine ⟨H7.out, ?_⟩
          iterate 3
            refine planG_look rfl rfl (fun w0 hS => (by clear hS; go_simp; try rfl)) ?_
            simp only [Act.put, List.setIfInBounds_toArray, List.set_cons_succ, List.set_cons_zero]
          refine planG_last rfl ?_
          go_wp2_with (first
            | fail
            | ((with_reducible show wpList _ _ _ (⟨_, .alloc 37, _, _, _, _⟩ :: _) _ _); refine wpList_alloc_is rfl 37 rfl (.agg Z) HZ.out.1 ?_; dsimp only [Value.cells]; try simp only [World.size_alloc]))
          refine ⟨H7.out.adds ((Ch.refl _ _).alloc _), ?_⟩
          refine plan_do rfl ?_
          go_wp2_with (first
            | fail
            | ((with_reducible show wpList _ _ _ (⟨_, .store 37 _ _, _, _, _, _⟩ :: _) _ _); refine wpList_store_part rfl 37 _ _ rfl w7.heap.size 0 Z rfl rfl (heap_alloc_new _ _) (by rw [sizePr, HZ.out.2.1]) (by omega) HZ.out.2.2.1 Z (by rw [splice_all _ _ rfl]) ?_))
          refine ⟨H7.out.adds (((Ch.refl _ _).alloc _).setRow (.inr (Nat.le_refl _)) _), ?_⟩
          refine plan_end ?_; simp only [List.drop_succ_cons, List.drop_zero]
          go_wp2
          refine NoPanic.normal ?_
          go_wp2
          go_meet
          case rel => exact ⟨w7.heap.size, rfl, rfl, row_setRow_same (heap_alloc_new _ _) _, H7.out.adds (((Ch.refl _ _).alloc _).setRow (.inr (Nat.le_refl _)) _)⟩
        · go_wp2_with (first
            | fail
            | ((with_reducible show wpList _ _ _ (⟨_, .alloc 37, _, _, _, _⟩ :: _) _ _); refine wpList_alloc_is rfl 37 rfl (.agg Z) HZ.out.1 ?_; dsimp only [Value.cells]; try simp only [World.size_alloc]))
          refine ⟨(H6.out.adds (Ch.refl _ _).drew).adds ((Ch.refl _ _).alloc _), ?_⟩
          refine plan_do rfl ?_
          go_wp2_with fail
          refine (LNth_z (.inr ⟨_, rfl, ((H6.out.adds (Ch.refl _ _).drew).adds ((Ch.refl _ _).alloc _)).2.2.1⟩) h n).mono ?_; rintro e w7 ⟨rfl, a9⟩
          rw [← HZZ.out]
          have H7 := Lib.hid (And.intro (Place13.adds ((H6.out.adds (Ch.refl _ _).drew).adds ((Ch.refl _ _).alloc (.cells Z 37))) a9) (And.intro (a9.row (heap_alloc_new w6.drew (.cells Z 37)) id) a9.size))
          have H7a : RowKit.Hid (∀ Z', Place13 w.heap.size (w.heap.size + 1 + 1) (w.heap.size + 1) C w (w7.setRow w6.drew.heap.size Z')) := Lib.hid (fun Z' => Place13.adds (H6.out.adds (Ch.refl _ _).drew) (((Ch.refl (fun _ => False) w6.drew).alloc (.cells Z 37)).trans a9 (fun _ h => h.elim) |>.setRow (.inr (Nat.le_refl _)) Z'))
          clear a9
          dsimp only
          go_step
          refine wpList_nil ?_
          change _ ∧ _
          refine ⟨H7.out.1, ?_⟩
          iterate 3
            refine plan_look rfl rfl (fun w0 hS => (by clear hS; go_simp; try rfl)) ?_
            simp only [Act.put, List.setIfInBounds_toArray, List.set_cons_succ, List.set_cons_zero]
          refine plan_do rfl ?_
          go_wp2_with (first
            | fail
            | ((with_reducible show wpList _ _ _ (⟨_, .store 37 _ _, _, _, _, _⟩ :: _) _ _); refine wpList_store_part rfl 37 _ _ rfl w6.drew.heap.size 0 Z rfl rfl H7.out.2.1 (by rw [sizePr, HZ.out.2.1]) (by omega) HZ.out.2.2.1 Z (by rw [splice_all _ _ rfl]) ?_))
          refine ⟨H7a.out Z, ?_⟩
          refine plan_end ?_; simp only [List.drop_succ_cons, List.drop_zero]
          go_wp2
          refine NoPanic.normal ?_
          go_wp2
          go_meet
          case rel => exact ⟨w6.drew.heap.size, rfl, rfl, row_setRow_same H7.out.2.1 _, H7a.out Z⟩
      case rest =>
        obtain ⟨b, rfl, rfl, r9, h9⟩ := hcut
        have H9 := Lib.hid h9
        have R9 := Lib.hid r9
        clear r9 h9
        go_wp2
        refine wp_region_plan (Place13 w.heap.size (w.heap.size + 1 + 1) (w.heap.size + 1) C w) 16 [(0, false), (1, false), (2, false), (3, false), (4, false), (5, false), (6, false), (7, false), (8, false), (9, false), (10, true), (11, false), (12, false), (13, false), (14, false), (15, false)] (by kernel_rfl) (by kernel_rfl) ?_ ?_
        · exact H9.out.adds (Ch.refl _ _).drew
        iterate 3
          refine plan_look rfl rfl (fun w0 hS => (by clear hS; go_simp; try rfl)) ?_
          simp only [Act.put, List.setIfInBounds_toArray, List.set_cons_succ, List.set_cons_zero]
        refine plan_look (v := .pointer (some ⟨w.heap.size + 1, 0, none⟩)) rfl rfl (fun w0 hS => (by obtain ⟨tt, hS⟩ := hS.2.1; have e0 := row_cell hS (i := 1) rfl; clear hS; go_simp; try rfl)) ?_
        simp only [Act.put, List.setIfInBounds_toArray, List.set_cons_succ, List.set_cons_zero]
        iterate 1
          refine plan_look rfl rfl (fun w0 hS => (by clear hS; go_simp; try rfl)) ?_
          simp only [Act.put, List.setIfInBounds_toArray, List.set_cons_succ, List.set_cons_zero]
        refine plan_look (v := .int .i64 h) rfl rfl (fun w0 hS => (by have e0 := row_cell hS.1 HQ.out.2.1; clear hS; go_simp; try rfl)) ?_
        simp only [Act.put, List.setIfInBounds_toArray, List.set_cons_succ, List.set_cons_zero]
        iterate 1
          refine plan_look rfl rfl (fun w0 hS => (by clear hS; go_simp; try rfl)) ?_
          simp only [Act.put, List.setIfInBounds_toArray, List.set_cons_succ, List.set_cons_zero]
        refine plan_load_part (cur := C) (t := 25) (fr := (0, 0)) rfl rfl 23 _ rfl w.heap.size 1 32 rfl (fun w0 hS => hS.1) Try.underlying23 rfl sizeP (by rw [HQ.out.1]; omega) K HQ.out.2.2.1 ?_
        simp only [Act.put, List.setIfInBounds_toArray, List.set_cons_succ, List.set_cons_zero]
        iterate 1
          refine plan_look rfl rfl (fun w0 hS => (by clear hS; go_simp; try rfl)) ?_
          simp only [Act.put, List.setIfInBounds_toArray, List.set_cons_succ, List.set_cons_zero]
        refine plan_load_part (cur := C) (t := 25) (fr := (0, 0)) rfl rfl 23 _ rfl w.heap.size 33 32 rfl (fun w0 hS => hS.1) Try.underlying23 rfl sizeP (by rw [HQ.out.1]; omega) T HQ.out.2.2.2.1 ?_
        simp only [Act.put, List.setIfInBounds_toArray, List.set_cons_succ, List.set_cons_zero]
        have R9d := Lib.hid (row_drew R9.out)
        refine plan_do rfl ?_
        go_wp2_with fail
        refine (LBetween_z (.inr ⟨_, rfl, (H9.out.adds (Ch.refl _ _).drew).2.2.1⟩) h K T).mono ?_; rintro e wa ⟨rfl, a9⟩
        have HA := Lib.hid (Place13.adds (H9.out.adds (Ch.refl _ _).drew) a9)
        have RA := Lib.hid (a9.row R9d.out id)
        clear a9
        dsimp only
        go_step
        refine wpList_nil ?_
        change _ ∧ _
        refine ⟨HA.out, ?_⟩
        iterate 5
          refine plan_look rfl rfl (fun w0 hS => (by clear hS; go_simp; try rfl)) ?_
          simp only [Act.put, List.setIfInBounds_toArray, List.set_cons_succ, List.set_cons_zero]
        refine plan_end ?_; simp only [List.drop_succ_cons, List.drop_zero]
        go_wp2
        refine NoPanic.normal ?_
        go_wp2
        refine wp_region_plan (Place13 w.heap.size (w.heap.size + 1 + 1) (w.heap.size + 1) C w) 16 [(0, false), (1, false), (2, false), (3, false), (4, false), (5, false), (6, false), (7, false), (8, false), (9, false), (10, true), (11, false), (12, false), (13, false), (14, false), (15, false)] (by kernel_rfl) (by kernel_rfl) ?_ ?_
        · exact HA.out.adds (Ch.refl _ _).drew
        iterate 3
          refine plan_look rfl rfl (fun w0 hS => (by clear hS; go_simp; try rfl)) ?_
          simp only [Act.put, List.setIfInBounds_toArray, List.set_cons_succ, List.set_cons_zero]
        refine plan_look (v := .pointer (some ⟨w.heap.size + 1, 0, none⟩)) rfl rfl (fun w0 hS => (by obtain ⟨tt, hS⟩ := hS.2.1; have e0 := row_cell hS (i := 1) rfl; clear hS; go_simp; try rfl)) ?_
        simp only [Act.put, List.setIfInBounds_toArray, List.set_cons_succ, List.set_cons_zero]
        iterate 1
          refine plan_look rfl rfl (fun w0 hS => (by clear hS; go_simp; try rfl)) ?_
          simp only [Act.put, List.setIfInBounds_toArray, List.set_cons_succ, List.set_cons_zero]
        refine plan_look (v := .int .i64 h) rfl rfl (fun w0 hS => (by have e0 := row_cell hS.1 HQ.out.2.1; clear hS; go_simp; try rfl)) ?_
        simp only [Act.put, List.setIfInBounds_toArray, List.set_cons_succ, List.set_cons_zero]
        iterate 1
          refine plan_look rfl rfl (fun w0 hS => (by clear hS; go_simp; try rfl)) ?_
          simp only [Act.put, List.setIfInBounds_toArray, List.set_cons_succ, List.set_cons_zero]
        refine plan_load_part (cur := C) (t := 25) (fr := (0, 0)) rfl rfl 23 _ rfl w.heap.size 1 32 rfl (fun w0 hS => hS.1) Try.underlying23 rfl sizeP (by rw [HQ.out.1]; omega) K HQ.out.2.2.1 ?_
        simp only [Act.put, List.setIfInBounds_toArray, List.set_cons_succ, List.set_cons_zero]
        iterate 1
          refine plan_look rfl rfl (fun w0 hS => (by clear hS; go_simp; try rfl)) ?_
          simp only [Act.put, List.setIfInBounds_toArray, List.set_cons_succ, List.set_cons_zero]
        refine plan_look (v := .int .i64 most) rfl rfl (fun w0 hS => (by have e0 := row_cell hS.1 HQ.out.2.2.2.2.2; clear hS; go_simp; try rfl)) ?_
        simp only [Act.put, List.setIfInBounds_toArray, List.set_cons_succ, List.set_cons_zero]
        have RAd := Lib.hid (row_drew RA.out)
        refine plan_do rfl ?_
        go_wp2_with fail
        refine (LSome_z (.inr ⟨_, rfl, (HA.out.adds (Ch.refl _ _).drew).2.2.1⟩) h most K).mono ?_; rintro e wb ⟨rfl, a9⟩
        have HBB := Lib.hid (Place13.adds (HA.out.adds (Ch.refl _ _).drew) a9)
        have RB := Lib.hid (a9.row RAd.out id)
        clear a9
        dsimp only
        go_step
        refine wpList_nil ?_
        change _ ∧ _
        refine ⟨HBB.out, ?_⟩
        iterate 5
          refine plan_look rfl rfl (fun w0 hS => (by clear hS; go_simp; try rfl)) ?_
          simp only [Act.put, List.setIfInBounds_toArray, List.set_cons_succ, List.set_cons_zero]
        refine plan_end ?_; simp only [List.drop_succ_cons, List.drop_zero]
        go_wp2
        refine NoPanic.normal ?_
        go_wp2
        refine wp_region_plan (fun wz => Place13 w.heap.size (w.heap.size + 1 + 1) (w.heap.size + 1) C w wz ∧ wz.heap[b]? = some (.cells Z 37 (0, 0))) 63 [(0, false), (1, false), (2, false), (3, false), (4, false), (5, false), (6, false), (7, false), (8, false), (9, false), (10, false), (11, false), (12, false), (13, false), (14, false), (15, false), (16, false), (17, false), (18, false), (19, false), (20, false), (21, false), (22, false), (23, false), (24, false), (25, false), (26, false), (27, false), (28, false), (29, false), (30, false), (31, false), (32, false), (33, false), (34, false), (35, false), (36, false), (37, false), (38, false), (39, false), (40, false), (41, false), (42, false), (43, false), (44, false), (45, false), (46, true), (47, true), (48, false), (49, false), (50, false), (51, false), (52, false), (53, false), (54, false), (55, false), (56, false), (57, false), (58, false), (59, true), (60, true), (61, false), (62, false)] (by kernel_rfl) (by kernel_rfl) ?_ ?_
        · exact ⟨HBB.out.adds (Ch.refl _ _).drew, row_drew RB.out⟩
        iterate 9
          refine plan_look rfl rfl (fun w0 hS => (by clear hS; go_simp; try rfl)) ?_
          simp only [Act.put, List.setIfInBounds_toArray, List.set_cons_succ, List.set_cons_zero]
        refine plan_look (v := .slice none 0 0) rfl rfl (fun w0 hS => (by have e0 := row_cell hS.2 HZ.out.2.2.2.2; clear hS; go_simp; try rfl)) ?_
        simp only [Act.put, List.setIfInBounds_toArray, List.set_cons_succ, List.set_cons_zero]
        iterate 3
          refine plan_look rfl rfl (fun w0 hS => (by clear hS; go_simp; try rfl)) ?_
          simp only [Act.put, List.setIfInBounds_toArray, List.set_cons_succ, List.set_cons_zero]
        refine plan_look (v := .bool false) rfl rfl (fun w0 hS => (by clear hS; go_simp; try rfl)) ?_
        simp only [Act.put, List.setIfInBounds_toArray, List.set_cons_succ, List.set_cons_zero]
        iterate 1
          refine plan_look rfl rfl (fun w0 hS => (by clear hS; go_simp; try rfl)) ?_
          simp only [Act.put, List.setIfInBounds_toArray, List.set_cons_succ, List.set_cons_zero]
        refine Law9.plan_gload_part (cur := Z) (t := 37) (fr := (0, 0)) rfl rfl 23 _ rfl b 0 32 rfl (fun w0 hS => hS.2) Try.underlying23 rfl sizeP (by rw [HZ.out.2.1]; omega) K0 HZ.out.2.2.2.1 ?_
        simp only [Act.put, List.setIfInBounds_toArray, List.set_cons_succ, List.set_cons_zero]
        refine plan_gbuild_none rfl rfl 23 rfl K0 HB.out ?_
        simp only [Act.put, List.setIfInBounds_toArray, List.set_cons_succ, List.set_cons_zero]
        refine plan_look (v := .bool false) rfl rfl (fun w0 hS => (by clear hS; have := hqk w0; go_simp; try rfl)) ?_
        simp only [Act.put, List.setIfInBounds_toArray, List.set_cons_succ, List.set_cons_zero]
        refine plan_look (v := .bool false) rfl rfl (fun w0 hS => (by clear hS; go_simp; try rfl)) ?_
        simp only [Act.put, List.setIfInBounds_toArray, List.set_cons_succ, List.set_cons_zero]
        refine plan_look (v := .bool false) rfl rfl (fun w0 hS => (by clear hS; go_simp; try rfl)) ?_
        simp only [Act.put, List.setIfInBounds_toArray, List.set_cons_succ, List.set_cons_zero]
        iterate 2
          refine plan_look rfl rfl (fun w0 hS => (by clear hS; go_simp; try rfl)) ?_
          simp only [Act.put, List.setIfInBounds_toArray, List.set_cons_succ, List.set_cons_zero]
        iterate 2
          refine plan_look (v := .bool false) rfl rfl (fun w0 hS => (by clear hS; go_simp; try rfl)) ?_
          simp only [Act.put, List.setIfInBounds_toArray, List.set_cons_succ, List.set_cons_zero]
        iterate 2
          refine plan_look rfl rfl (fun w0 hS => (by clear hS; go_simp; try rfl)) ?_
          simp only [Act.put, List.setIfInBounds_toArray, List.set_cons_succ, List.set_cons_zero]
        iterate 2
          refine plan_look (v := .bool false) rfl rfl (fun w0 hS => (by clear hS; go_simp; try rfl)) ?_
          simp only [Act.put, List.setIfInBounds_toArray, List.set_cons_succ, List.set_cons_zero]
        iterate 2
          refine plan_look rfl rfl (fun w0 hS => (by clear hS; go_simp; try rfl)) ?_
          simp only [Act.put, List.setIfInBounds_toArray, List.set_cons_succ, List.set_cons_zero]
        iterate 2
          refine plan_look (v := .bool false) rfl rfl (fun w0 hS => (by clear hS; go_simp; try rfl)) ?_
          simp only [Act.put, List.setIfInBounds_toArray, List.set_cons_succ, List.set_cons_zero]
        iterate 2
          refine plan_look rfl rfl (fun w0 hS => (by clear hS; go_simp; try rfl)) ?_
          simp only [Act.put, List.setIfInBounds_toArray, List.set_cons_succ, List.set_cons_zero]
        iterate 2
          refine plan_look (v := .bool false) rfl rfl (fun w0 hS => (by clear hS; go_simp; try rfl)) ?_
          simp only [Act.put, List.setIfInBounds_toArray, List.set_cons_succ, List.set_cons_zero]
        iterate 2
          refine plan_look rfl rfl (fun w0 hS => (by clear hS; go_simp; try rfl)) ?_
          simp only [Act.put, List.setIfInBounds_toArray, List.set_cons_succ, List.set_cons_zero]
        iterate 2
          refine plan_look (v := .bool false) rfl rfl (fun w0 hS => (by clear hS; go_simp; try rfl)) ?_
          simp only [Act.put, List.setIfInBounds_toArray, List.set_cons_succ, List.set_cons_zero]
        iterate 3
          refine plan_look rfl rfl (fun w0 hS => (by clear hS; go_simp; try rfl)) ?_
          simp only [Act.put, List.setIfInBounds_toArray, List.set_cons_succ, List.set_cons_zero]
        refine plan_look (v := .pointer (some ⟨w.heap.size + 1, 0, none⟩)) rfl rfl (fun w0 hS => (by obtain ⟨tt, hS⟩ := hS.1.2.1; have e0 := row_cell hS (i := 1) rfl; clear hS; go_simp; try rfl)) ?_
        simp only [Act.put, List.setIfInBounds_toArray, List.set_cons_succ, List.set_cons_zero]
        iterate 1
          refine plan_look rfl rfl (fun w0 hS => (by clear hS; go_simp; try rfl)) ?_
          simp only [Act.put, List.setIfInBounds_toArray, List.set_cons_succ, List.set_cons_zero]
        refine plan_look (v := .int .i64 h) rfl rfl (fun w0 hS => (by have e0 := row_cell hS.1.1 HQ.out.2.1; clear hS; go_simp; try rfl)) ?_
        simp only [Act.put, List.setIfInBounds_toArray, List.set_cons_succ, List.set_cons_zero]
        refine plan_do rfl ?_
        go_wp2_with fail
        refine (LAll_z (.inr ⟨_, rfl, (HBB.out.adds (Ch.refl _ _).drew).2.2.1⟩) h).mono ?_; rintro e wc ⟨q, rfl, hq, a9⟩
        have HC := Lib.hid (Place13.adds (HBB.out.adds (Ch.refl _ _).drew) a9)
        have RC := Lib.hid (a9.row (row_drew RB.out) id)
        obtain ⟨bq, rfl⟩ := seq_form hq
        have HSQ := Lib.hid hq
        clear hq a9
        dsimp only
        go_step
        refine wpList_nil ?_
        change _ ∧ _
        refine ⟨⟨HC.out, RC.out⟩, ?_⟩
        refine plan_do rfl ?_
        go_wp2_with fail
        refine (gone_none HSQ.out).mono ?_; rintro e wd ⟨rfl, a9⟩
        have HD := Lib.hid (Place13.adds (HC.out) a9)
        have RD := Lib.hid (a9.row (RC.out) id)
        clear a9
        dsimp only
        go_step
        refine wpList_nil ?_
        change _ ∧ _
        refine ⟨⟨HD.out, RD.out⟩, ?_⟩
        iterate 3
          refine plan_look (v := .bool false) rfl rfl (fun w0 hS => (by clear hS; go_simp; try rfl)) ?_
          simp only [Act.put, List.setIfInBounds_toArray, List.set_cons_succ, List.set_cons_zero]
        iterate 3
          refine plan_look rfl rfl (fun w0 hS => (by clear hS; go_simp; try rfl)) ?_
          simp only [Act.put, List.setIfInBounds_toArray, List.set_cons_succ, List.set_cons_zero]
        refine plan_look (v := .pointer (some ⟨w.heap.size + 1, 0, none⟩)) rfl rfl (fun w0 hS => (by obtain ⟨tt, hS⟩ := hS.1.2.1; have e0 := row_cell hS (i := 1) rfl; clear hS; go_simp; try rfl)) ?_
        simp only [Act.put, List.setIfInBounds_toArray, List.set_cons_succ, List.set_cons_zero]
        iterate 1
          refine plan_look rfl rfl (fun w0 hS => (by clear hS; go_simp; try rfl)) ?_
          simp only [Act.put, List.setIfInBounds_toArray, List.set_cons_succ, List.set_cons_zero]
        refine plan_look (v := .int .i64 h) rfl rfl (fun w0 hS => (by have e0 := row_cell hS.1.1 HQ.out.2.1; clear hS; go_simp; try rfl)) ?_
        simp only [Act.put, List.setIfInBounds_toArray, List.set_cons_succ, List.set_cons_zero]
        iterate 1
          refine plan_look rfl rfl (fun w0 hS => (by clear hS; go_simp; try rfl)) ?_
          simp only [Act.put, List.setIfInBounds_toArray, List.set_cons_succ, List.set_cons_zero]
        refine Law9.plan_gload_part (cur := C) (t := 25) (fr := (0, 0)) rfl rfl 23 _ rfl w.heap.size 1 32 rfl (fun w0 hS => hS.1.1) Try.underlying23 rfl sizeP (by rw [HQ.out.1]; omega) K HQ.out.2.2.1 ?_
        simp only [Act.put, List.setIfInBounds_toArray, List.set_cons_succ, List.set_cons_zero]
        refine plan_do rfl ?_
        go_wp2_with fail
        refine (LFrom_z (.inr ⟨_, rfl, (HD.out).2.2.1⟩) h K).mono ?_; rintro e we ⟨q, rfl, hq, a9⟩
        have HE := Lib.hid (Place13.adds (HD.out) a9)
        have RE := Lib.hid (a9.row (RD.out) id)
        obtain ⟨bq2, rfl⟩ := seq_form hq
        have HSQ2 := Lib.hid hq
        clear hq a9
        dsimp only
        go_step
        refine wpList_nil ?_
        change _ ∧ _
        refine ⟨⟨HE.out, RE.out⟩, ?_⟩
        refine plan_do rfl ?_
        go_wp2_with fail
        refine (gone_none HSQ2.out).mono ?_; rintro e wf ⟨rfl, a9⟩
        have HF := Lib.hid (Place13.adds (HE.out) a9)
        have RF := Lib.hid (a9.row (RE.out) id)
        clear a9
        dsimp only
        go_step
        refine wpList_nil ?_
        change _ ∧ _
        refine ⟨⟨HF.out, RF.out⟩, ?_⟩
        iterate 2
          refine plan_look (v := .bool false) rfl rfl (fun w0 hS => (by clear hS; go_simp; try rfl)) ?_
          simp only [Act.put, List.setIfInBounds_toArray, List.set_cons_succ, List.set_cons_zero]
        refine plan_end ?_; simp only [List.drop_succ_cons, List.drop_zero]
        go_wp2
        refine NoPanic.normal ?_
        go_wp2
        go_roundg g
        case measure => omega
        case rel => exact ⟨2, rfl, by omega, HF.out⟩
end Go.Proofs.Ytfllneenonhonaa.Law13
