/- SlabScript: one call of both slabs: Set, Get and Count, the ways over all, and what is no call. -/
import Derived.Test.YtdgdpbmaalcedaaActs6
import Derived.Deep.CutRange
import Derived.Deep.DeepCutAuto
import Derived.Deep.CutBlock
namespace Go.Proofs.Ytdgdpbmaalcedaa
open Go Go.RowKit
set_option maxHeartbeats 1600000
set_option linter.unusedVariables false

section
variable {w : World} {A B : Nat} {F : Nat → Prop} {σ τ : SlabSt}
theorem get_s (h : PairAt w A B F σ τ) (n : Int) : Calls Try.prog 67 #[.pointer (some ⟨A, 0, none⟩), .int .i64 n] w fun e w' => e = .returned (.tuple #[((σ.get? n).map (·.1)).getD (.int .i64 0), .int .i64 (Ref6.wrongOf σ n)]) ∧ Ref6.Adds w w' := by
  obtain ⟨F1, h1, _⟩ := h.slab
  refine (SlabI.Get_ok h1 n).mono fun e w' ⟨he, hq⟩ => ⟨?_, hq⟩
  rw [he]
  have hz : SlabI.got σ n = ((σ.get? n).map (·.1)).getD (.int .i64 0) := by
    have hzz : SlabI.zero = .int .i64 0 := Option.some.inj (SlabI.zero_is.symm.trans (by kernel_rfl))
    unfold SlabI.got
    cases σ.get? n <;> simp [hzz]
  rw [hz]
  rfl
theorem get_d (h : PairAt w A B F σ τ) (hwf : τ.WF SlabI.OkV) (n : Int) : Calls Try.prog 68 #[.pointer (some ⟨B, 0, none⟩), .int .i64 n] w fun e w' => e = .returned (.tuple #[((τ.get? n).map (·.1)).getD (.int .i64 0), .int .i64 (Ref6.wrongOf τ n)]) ∧ w = w' := by
  obtain ⟨F1, h1, _⟩ := h.doc
  exact Ref6.Get_ok h1 (by have := hwf.len; have := hwf.room; omega) n
theorem count_s (h : PairAt w A B F σ τ) (n : Int) : Calls Try.prog 69 #[.pointer (some ⟨A, 0, none⟩), .int .i64 n] w fun e w' => e = .returned (.int .i64 (σ.count n)) ∧ w = w' := by
  obtain ⟨F1, h1, _⟩ := h.slab
  exact SlabI.Count_ok h1 n
theorem count_d (h : PairAt w A B F σ τ) (hwf : τ.WF SlabI.OkV) (n : Int) : Calls Try.prog 70 #[.pointer (some ⟨B, 0, none⟩), .int .i64 n] w fun e w' => e = .returned (.int .i64 (τ.count n)) ∧ w = w' := by
  obtain ⟨F1, h1, _⟩ := h.doc
  exact Ref6.Count_ok h1 (by have := hwf.len; have := hwf.room; omega) n
theorem gone_p (h : PairAt w A B F σ σ) (stop : Int) : Calls Try.prog 26 #[.agg #[.pointer (some ⟨A, 0, none⟩), .pointer (some ⟨B, 0, none⟩)], .int .i64 stop] w fun e w' => e = .returned (.bool true) ∧ Ref6.Adds w w' := by
  obtain ⟨F1, F2, h1, h2, _, _, _, _, hn⟩ := h
  exact (gone_ok h1 h2 hn stop).mono fun e w' ⟨he, hb⟩ => ⟨he, (Ch.of_below hb).mono (fun k hk h => absurd hk (by simpa using h))⟩
theorem Box.adds {w2 w3 : World} {k s x : Int} (h : Box w w2 A B k s x) (ha : Ref6.Adds w2 w3) : Box w w3 A B k s x := ⟨ha.row h.1 id, ha.row h.2 id⟩
set_option maxRecDepth 100000 in
theorem act_set (h : PairAt w A B F σ σ) (sl x : Int) : Calls Try.prog 25 #[.agg (pairV A B), .agg (actV3 4 sl x)] w fun e w' => e = .returned (.bool true) ∧ ∃ σ', PairMoved w w' A B F σ' σ' := by
  have hwf := h.wf
  have hF := h.lt
  obtain ⟨hb, ha⟩ := box_new w A B 4 sl x
  have h2 := h.adds ha
  have c0 := hb.kind
  have H := Lib.hid (And.intro hwf (And.intro hF (And.intro hb (And.intro ha h2))))
  clear h hwf hF hb ha h2
  go_enter Try.func25, Try.ntmps25
  go_wp2
  refine wp_region_plan (fun w0 => Box w w0 A B 4 sl x) 15 [(0, false), (1, false), (2, false), (3, false), (4, false), (5, false), (7, false), (8, false), (9, false), (10, false), (11, false), (12, false), (6, true), (13, true), (14, false)] (by kernel_rfl) (by kernel_rfl) ?_ ?_
  · exact H.out.2.2.1.drew
  iterate 12 refine plan_look rfl rfl (fun w0 hS => (by have x0 := hS.s; have x1 := hS.d; have y0 := hS.kind; have y1 := hS.slot; have y2 := hS.x; clear hS; go_simp; try rfl)) ?_
  simp only [Act.put, List.setIfInBounds_toArray, List.set_cons_succ, List.set_cons_zero]
  refine plan_do rfl ?_
  go_wp2_with fail
  refine (set_s (H.out.2.2.2.2.adds ((Ch.refl _ _).drew)) sl x).mono ?_; rintro e w3 ⟨rfl, hm3⟩
  dsimp only
  go_step
  refine wpList_nil ?_
  change _ ∧ _
  have hb3 := H.out.2.2.1.drew.moved H.out.2.1 hm3
  refine ⟨hb3, ?_⟩
  obtain ⟨F3, a3, k3, f3⟩ := id hm3
  have H3 := Lib.hid (And.intro (And.intro a3 (And.intro k3 f3)) hb3)
  have htd := set_d a3 H.out.1 sl x
  obtain ⟨te, hte⟩ : ∃ y, y = (σ.set sl (.int .i64 x)).1 := ⟨_, rfl⟩
  rw [← hte] at htd ⊢
  have TD := Lib.hid htd
  clear htd hte a3 k3 f3 hb3 hm3
  refine plan_do rfl ?_
  go_wp2_with fail
  refine TD.out.mono ?_; rintro e w4 ⟨rfl, hm4⟩
  dsimp only
  go_step
  refine wpList_nil ?_
  change _ ∧ _
  have hb4 := H3.out.2.moved2 ⟨fun hf => (H3.out.1.2.2 _ hf).elim (fun hx => absurd (H.out.2.1 _ hx) (Nat.lt_irrefl _)) (fun hx => by simp at hx <;> omega), fun hf => (H3.out.1.2.2 _ hf).elim (fun hx => by have := H.out.2.1 _ hx; omega) (fun hx => by simp at hx <;> omega)⟩ hm4
  refine ⟨hb4, ?_⟩
  have H4 := Lib.hid hm4
  clear hm4 hb4
  iterate 1 refine plan_look rfl rfl (fun w0 hS => (by have x0 := hS.s; have x1 := hS.d; have y0 := hS.kind; have y1 := hS.slot; have y2 := hS.x; clear hS; go_simp; try rfl)) ?_
  refine plan_end ?_; simp only [List.drop_succ_cons, List.drop_zero]
  go_wp2
  refine NoPanic.normal ?_
  go_wp2
  go_ret
  exact ⟨by simp, _, joined (H.out.2.2.2.1.drew) H3.out.1 H4.out⟩

set_option maxRecDepth 100000 in
theorem act_get (h : PairAt w A B F σ σ) (sl x : Int) : Calls Try.prog 25 #[.agg (pairV A B), .agg (actV3 3 sl x)] w fun e w' => e = .returned (.bool true) ∧ ∃ σ', PairMoved w w' A B F σ' σ' := by
  have hwf := h.wf
  have hF := h.lt
  obtain ⟨hb, ha⟩ := box_new w A B 3 sl x
  have h2 := h.adds ha
  have c0 := hb.s
  have c1 := hb.kind
  have c2 := hb.slot
  have hval : ∃ y : Int, ((σ.get? sl).map (·.1)).getD (.int .i64 0) = .int .i64 y := by
    cases hs : σ.get? sl with
    | none => exact ⟨0, rfl⟩
    | some s => obtain ⟨y, hy⟩ := h.nums.got hs; exact ⟨y, hy⟩
  obtain ⟨y, hy⟩ := hval
  obtain ⟨er, her⟩ : ∃ z, z = Ref6.wrongOf σ sl := ⟨_, rfl⟩
  have hg := get_s h2 sl
  have hgd := fun w1 (h1 : PairAt w1 A B F σ σ) => get_d h1 hwf sl
  rw [hy, ← her] at hg hgd
  have H := Lib.hid (And.intro hwf (And.intro hF (And.intro hb (And.intro ha h2))))
  have GS := Lib.hid hg
  have GD := Lib.hid hgd
  clear h hwf hF hb ha h2 hy her hg hgd
  go_enter Try.func25, Try.ntmps25
  go_wp2_with fail
  refine GS.out.mono ?_; rintro e w3 ⟨rfl, a3⟩
  have hb3 := H.out.2.2.1.adds a3
  have d1 := hb3.d
  have d2 := hb3.slot
  have hp3 := H.out.2.2.2.2.adds a3
  have H3 := Lib.hid (And.intro a3 (And.intro hb3 hp3))
  clear a3 hb3 hp3 c0 c1 c2
  go_wp2_with fail
  refine (GD.out _ H3.out.2.2).mono ?_; rintro e w4 ⟨rfl, rfl⟩
  go_upto_region 15 with fail
  refine wp_region_plan (fun w0 => Box w w0 A B 3 sl x) 21 [(0, false), (1, false), (2, false), (3, false), (4, false), (5, false), (6, false), (7, false), (8, false), (9, false), (10, false), (11, false), (12, false), (14, false), (15, false), (16, false), (17, false), (13, true), (18, true), (19, false), (20, false)] (by kernel_rfl) (by kernel_rfl) ?_ ?_
  · exact H3.out.2.1.drew
  refine plan_look rfl rfl (fun w0 hS => (by clear hS; go_simp; try rfl)) ?_
  simp only [Act.put, List.setIfInBounds_toArray, List.set_cons_succ, List.set_cons_zero]
  refine plan_look rfl rfl (fun w0 hS => (by clear hS; go_simp; try rfl)) ?_
  simp only [Act.put, List.setIfInBounds_toArray, List.set_cons_succ, List.set_cons_zero]
  refine plan_look rfl rfl (fun w0 hS => (by clear hS; go_simp; try rfl)) ?_
  simp only [Act.put, List.setIfInBounds_toArray, List.set_cons_succ, List.set_cons_zero]
  refine plan_look rfl rfl (fun w0 hS => (by clear hS; go_simp; try rfl)) ?_
  simp only [Act.put, List.setIfInBounds_toArray, List.set_cons_succ, List.set_cons_zero]
  refine plan_look rfl rfl (fun w0 hS => (by clear hS; go_simp; try rfl)) ?_
  simp only [Act.put, List.setIfInBounds_toArray, List.set_cons_succ, List.set_cons_zero]
  refine plan_look rfl rfl (fun w0 hS => (by clear hS; go_simp; try rfl)) ?_
  simp only [Act.put, List.setIfInBounds_toArray, List.set_cons_succ, List.set_cons_zero]
  refine plan_look rfl rfl (fun w0 hS => (by clear hS; go_simp; try rfl)) ?_
  simp only [Act.put, List.setIfInBounds_toArray, List.set_cons_succ, List.set_cons_zero]
  refine plan_look (v := .bool true) rfl rfl (fun w0 hS => (by clear hS; go_simp; try rfl)) ?_
  simp only [Act.put, List.setIfInBounds_toArray, List.set_cons_succ, List.set_cons_zero]
  refine plan_look (v := .bool true) rfl rfl (fun w0 hS => (by clear hS; go_simp; try rfl)) ?_
  simp only [Act.put, List.setIfInBounds_toArray, List.set_cons_succ, List.set_cons_zero]
  iterate 1 refine plan_look rfl rfl (fun w0 hS => (by have x0 := hS.s; have x1 := hS.d; have y0 := hS.kind; have y1 := hS.slot; have y2 := hS.x; clear hS; go_simp; try rfl)) ?_
  simp only [Act.put, List.setIfInBounds_toArray, List.set_cons_succ, List.set_cons_zero]
  iterate 1 refine plan_look rfl rfl (fun w0 hS => (by have x0 := hS.s; have x1 := hS.d; have y0 := hS.kind; have y1 := hS.slot; have y2 := hS.x; clear hS; go_simp; try rfl)) ?_
  simp only [Act.put, List.setIfInBounds_toArray, List.set_cons_succ, List.set_cons_zero]
  iterate 1 refine plan_look rfl rfl (fun w0 hS => (by have x0 := hS.s; have x1 := hS.d; have y0 := hS.kind; have y1 := hS.slot; have y2 := hS.x; clear hS; go_simp; try rfl)) ?_
  simp only [Act.put, List.setIfInBounds_toArray, List.set_cons_succ, List.set_cons_zero]
  iterate 1 refine plan_look rfl rfl (fun w0 hS => (by have x0 := hS.s; have x1 := hS.d; have y0 := hS.kind; have y1 := hS.slot; have y2 := hS.x; clear hS; go_simp; try rfl)) ?_
  simp only [Act.put, List.setIfInBounds_toArray, List.set_cons_succ, List.set_cons_zero]
  iterate 1 refine plan_look rfl rfl (fun w0 hS => (by have x0 := hS.s; have x1 := hS.d; have y0 := hS.kind; have y1 := hS.slot; have y2 := hS.x; clear hS; go_simp; try rfl)) ?_
  simp only [Act.put, List.setIfInBounds_toArray, List.set_cons_succ, List.set_cons_zero]
  iterate 1 refine plan_look rfl rfl (fun w0 hS => (by have x0 := hS.s; have x1 := hS.d; have y0 := hS.kind; have y1 := hS.slot; have y2 := hS.x; clear hS; go_simp; try rfl)) ?_
  simp only [Act.put, List.setIfInBounds_toArray, List.set_cons_succ, List.set_cons_zero]
  iterate 1 refine plan_look rfl rfl (fun w0 hS => (by have x0 := hS.s; have x1 := hS.d; have y0 := hS.kind; have y1 := hS.slot; have y2 := hS.x; clear hS; go_simp; try rfl)) ?_
  simp only [Act.put, List.setIfInBounds_toArray, List.set_cons_succ, List.set_cons_zero]
  iterate 1 refine plan_look rfl rfl (fun w0 hS => (by have x0 := hS.s; have x1 := hS.d; have y0 := hS.kind; have y1 := hS.slot; have y2 := hS.x; clear hS; go_simp; try rfl)) ?_
  simp only [Act.put, List.setIfInBounds_toArray, List.set_cons_succ, List.set_cons_zero]
  refine plan_do rfl ?_
  go_wp2_with fail
  refine (count_s (H3.out.2.2.adds ((Ch.refl _ _).drew)) sl).mono ?_; rintro e w5 ⟨rfl, rfl⟩
  dsimp only
  go_step
  refine wpList_nil ?_
  change _ ∧ _
  refine ⟨H3.out.2.1.drew, ?_⟩
  refine plan_do rfl ?_
  go_wp2_with fail
  refine (count_d (H3.out.2.2.adds ((Ch.refl _ _).drew)) H.out.1 sl).mono ?_; rintro e w5 ⟨rfl, rfl⟩
  dsimp only
  go_step
  refine wpList_nil ?_
  change _ ∧ _
  refine ⟨H3.out.2.1.drew, ?_⟩
  refine plan_look (v := .bool true) rfl rfl (fun w0 hS => (by clear hS; go_simp; try rfl)) ?_
  simp only [Act.put, List.setIfInBounds_toArray, List.set_cons_succ, List.set_cons_zero]
  refine plan_look (v := .bool true) rfl rfl (fun w0 hS => (by clear hS; go_simp; try rfl)) ?_
  simp only [Act.put, List.setIfInBounds_toArray, List.set_cons_succ, List.set_cons_zero]
  refine plan_end ?_; simp only [List.drop_succ_cons, List.drop_zero]
  go_wp2
  refine NoPanic.normal ?_
  go_wp2
  go_ret
  exact ⟨by simp, _, PairMoved.from H.out.2.2.2.1 (H.out.2.2.2.2.same (H3.out.1.drew))⟩

set_option maxRecDepth 100000 in
theorem act_gone (h : PairAt w A B F σ σ) (sl x : Int) : Calls Try.prog 25 #[.agg (pairV A B), .agg (actV3 6 sl x)] w fun e w' => e = .returned (.bool true) ∧ ∃ σ', PairMoved w w' A B F σ' σ' := by
  obtain ⟨hb, ha⟩ := box_new w A B 6 sl x
  have h2 := h.adds ha
  have c1 := hb.kind
  have c2 := hb.x
  have H := Lib.hid (And.intro hb (And.intro ha h2))
  clear h hb ha h2
  go_enter Try.func25, Try.ntmps25
  have hsz : (Try.prog.info? 53).map (·.size) = some 2 := by kernel_rfl
  go_wp2_with (first
    | fail
    | ((with_reducible show wpList _ _ _ (⟨_, .load 53 _, _, _, _, _⟩ :: _) _ _); refine wpList_load_part rfl 53 _ rfl w.heap.size 0 rfl H.out.1.1 Try.underlying53 rfl hsz (by simp [pairV]) (pairV A B) (by simp [pairV]) ?_))
  refine (gone_p H.out.2.2 x).mono ?_; rintro e w3 ⟨rfl, a3⟩
  have hb3 := H.out.1.adds a3
  have H3 := Lib.hid a3
  have d0 := hb3.s
  have d1 := hb3.d
  clear a3 hb3
  go_wp2_with fail
  refine (gone_p (H.out.2.2.adds H3.out) 0).mono ?_; rintro e w4 ⟨rfl, a4⟩
  go_wp2
  go_ret
  exact ⟨by simp, _, PairMoved.from H.out.2.1 (H.out.2.2.same (H3.out.trans a4 (fun _ h => h.elim)))⟩

set_option maxRecDepth 100000 in
theorem act_other (h : PairAt w A B F σ σ) (kd sl x : Int) (hk : kd ≠ 0 ∧ kd ≠ 1 ∧ kd ≠ 2 ∧ kd ≠ 3 ∧ kd ≠ 4 ∧ kd ≠ 5 ∧ kd ≠ 6) : Calls Try.prog 25 #[.agg (pairV A B), .agg (actV3 kd sl x)] w fun e w' => e = .returned (.bool true) ∧ ∃ σ', PairMoved w w' A B F σ' σ' := by
  obtain ⟨hb, ha⟩ := box_new w A B kd sl x
  have h2 := h.adds ha
  have c1 := hb.kind
  have H := Lib.hid (And.intro hb (And.intro ha h2))
  obtain ⟨k0, k1, k2, k3, k4, k5, k6⟩ := hk
  clear h hb ha h2
  go_enter Try.func25, Try.ntmps25
  go_wp2_with fail
  go_ret
  exact ⟨rfl, _, PairMoved.from H.out.2.1 (H.out.2.2.same (Ch.refl _ _))⟩
end

end Go.Proofs.Ytdgdpbmaalcedaa
