/- SlabScript: one call of both slabs. -/
import Derived.Test.YtdgdpbmaalcedaaPair6
namespace Go.Proofs.Ytdgdpbmaalcedaa
open Go Go.RowKit
set_option maxHeartbeats 1600000
set_option linter.unusedVariables false

section
variable {w : World} {A B : Nat} {F : Nat → Prop} {σ : SlabSt}
abbrev pairV (A B : Nat) : Array Value := #[.pointer (some ⟨A, 0, none⟩), .pointer (some ⟨B, 0, none⟩)]
abbrev actV3 (k s x : Int) : Array Value := #[.int .i64 k, .int .i64 s, .int .i64 x]
/-- The two boxes. -/
def Box (w w2 : World) (A B : Nat) (k s x : Int) : Prop := w2.heap[w.heap.size]? = some (.cells (pairV A B) 53 (0, 0)) ∧ w2.heap[w.heap.size + 1]? = some (.cells (actV3 k s x) 40 (0, 0))
theorem box_new (w : World) (A B : Nat) (k s x : Int) : Box w ((w.alloc (.cells (pairV A B) 53)).alloc (.cells (actV3 k s x) 40)) A B k s x ∧
    Ref6.Adds w ((w.alloc (.cells (pairV A B) 53)).alloc (.cells (actV3 k s x) 40)) := by
  refine ⟨⟨row_alloc (heap_alloc_new _ _) _, ?_⟩, ((Ch.refl _ _).alloc _).alloc _⟩
  have := heap_alloc_new (w.alloc (.cells (pairV A B) 53)) (.cells (actV3 k s x) 40)
  simpa using this
theorem Box.s {w w2 : World} {A B : Nat} {k s x : Int} (h : Box w w2 A B k s x) : w2.cell? ⟨w.heap.size, 0, none⟩ = some (.pointer (some ⟨A, 0, none⟩)) := row_cell h.1 rfl
theorem Box.d {w w2 : World} {A B : Nat} {k s x : Int} (h : Box w w2 A B k s x) : w2.cell? ⟨w.heap.size, 1, none⟩ = some (.pointer (some ⟨B, 0, none⟩)) := row_cell h.1 rfl
theorem Box.kind {w w2 : World} {A B : Nat} {k s x : Int} (h : Box w w2 A B k s x) : w2.cell? ⟨w.heap.size + 1, 0, none⟩ = some (.int .i64 k) := row_cell h.2 rfl
theorem Box.slot {w w2 : World} {A B : Nat} {k s x : Int} (h : Box w w2 A B k s x) : w2.cell? ⟨w.heap.size + 1, 1, none⟩ = some (.int .i64 s) := row_cell h.2 rfl
theorem Box.x {w w2 : World} {A B : Nat} {k s x : Int} (h : Box w w2 A B k s x) : w2.cell? ⟨w.heap.size + 1, 2, none⟩ = some (.int .i64 x) := row_cell h.2 rfl
theorem Box.drew {w w2 : World} {A B : Nat} {k s x : Int} (h : Box w w2 A B k s x) : Box w w2.drew A B k s x := h
theorem Box.moved {w w2 w3 : World} {A B : Nat} {k s x : Int} {F : Nat → Prop} {σ τ : SlabSt} (h : Box w w2 A B k s x) (hF : ∀ j, F j → j < w.heap.size) (hm : PairMoved w2 w3 A B F σ τ) : Box w w3 A B k s x :=
  ⟨hm.row h.1 (fun hf => absurd (hF _ hf) (Nat.lt_irrefl _)), hm.row h.2 (fun hf => by have := hF _ hf; omega)⟩
theorem Box.moved2 {w w2 w3 : World} {A B : Nat} {k s x : Int} {F : Nat → Prop} {σ τ : SlabSt} (h : Box w w2 A B k s x) (hF : ¬ F w.heap.size ∧ ¬ F (w.heap.size + 1)) (hm : PairMoved w2 w3 A B F σ τ) : Box w w3 A B k s x :=
  ⟨hm.row h.1 hF.1, hm.row h.2 hF.2⟩

/-- Two calls, one behind the other. -/
theorem joined {w w1 w2 w3 : World} {A B : Nat} {F F3 : Nat → Prop} {σ τ σ' τ' : SlabSt} (ha : Ref6.Adds w w1) (h3 : PairAt w2 A B F3 σ τ ∧ Ch F w1 w2 ∧ ∀ k, F3 k → F k ∨ w1.heap.size ≤ k) (h4 : PairMoved w2 w3 A B F3 σ' τ') : PairMoved w w3 A B F σ' τ' := by
  obtain ⟨F4, a4, k4, f4⟩ := h4
  obtain ⟨a3, k3, f3⟩ := h3
  refine PairMoved.from ha ⟨F4, a4, k3.trans k4 f3, fun k hk => (f4 k hk).elim (f3 k) (fun hx => .inr (Nat.le_trans k3.size hx))⟩

set_option maxRecDepth 100000 in
theorem act_take (h : PairAt w A B F σ σ) (sl x : Int) : Calls Try.prog 25 #[.agg (pairV A B), .agg (actV3 0 sl x)] w fun e w' => e = .returned (.bool true) ∧ ∃ σ', PairMoved w w' A B F σ' σ' := by
  have hwf := h.wf
  have hF := h.lt
  obtain ⟨hb, ha⟩ := box_new w A B 0 sl x
  have h2 := h.adds ha
  have c0 := hb.s
  have c1 := hb.kind
  have c2 := hb.x
  have H := Lib.hid (And.intro hwf (And.intro hF (And.intro hb (And.intro ha h2))))
  clear h hwf hF hb ha h2
  go_enter Try.func25, Try.ntmps25
  go_wp2_with fail
  refine (take_s H.out.2.2.2.2 x).mono ?_; rintro e w3 ⟨rfl, hm3⟩
  have hb3 := H.out.2.2.1.moved H.out.2.1 hm3
  have d1 := hb3.d
  have d2 := hb3.x
  obtain ⟨F3, a3, k3, f3⟩ := id hm3
  have H3 := Lib.hid (And.intro (And.intro a3 (And.intro k3 f3)) trivial)
  have htd := take_d a3 H.out.1 x
  obtain ⟨th, hth⟩ : ∃ y, y = (σ.take (.int .i64 x)).1 := ⟨_, rfl⟩
  obtain ⟨te, hte⟩ : ∃ y, y = (σ.take (.int .i64 x)).2.1 := ⟨_, rfl⟩
  rw [← hth, ← hte] at htd ⊢
  have TD := Lib.hid htd
  clear htd hth hte hm3 a3 k3 f3 hb3 c0 c1 c2
  go_wp2_with fail
  refine TD.out.mono ?_; rintro e w4 ⟨rfl, hm4⟩
  have H4 := Lib.hid hm4
  clear hm4
  go_wp2
  go_ret
  exact ⟨by simp, _, joined H.out.2.2.2.1 H3.out.1 H4.out⟩

set_option maxRecDepth 100000 in
theorem act_drop (h : PairAt w A B F σ σ) (sl x : Int) : Calls Try.prog 25 #[.agg (pairV A B), .agg (actV3 2 sl x)] w fun e w' => e = .returned (.bool true) ∧ ∃ σ', PairMoved w w' A B F σ' σ' := by
  have hwf := h.wf
  have hF := h.lt
  obtain ⟨hb, ha⟩ := box_new w A B 2 sl x
  have h2 := h.adds ha
  have c0 := hb.s
  have c1 := hb.kind
  have c2 := hb.slot
  have H := Lib.hid (And.intro hwf (And.intro hF (And.intro hb (And.intro ha h2))))
  clear h hwf hF hb ha h2
  go_enter Try.func25, Try.ntmps25
  go_wp2_with fail
  refine (drop_s H.out.2.2.2.2 sl).mono ?_; rintro e w3 ⟨rfl, hm3⟩
  have hb3 := H.out.2.2.1.moved H.out.2.1 hm3
  have d1 := hb3.d
  have d2 := hb3.slot
  obtain ⟨F3, a3, k3, f3⟩ := id hm3
  have H3 := Lib.hid (And.intro (And.intro a3 (And.intro k3 f3)) trivial)
  have htd := drop_d a3 H.out.1 sl
  obtain ⟨th, hth⟩ : ∃ y, y = (σ.drop SlabI.zero sl).1 := ⟨_, rfl⟩
  obtain ⟨te, hte⟩ : ∃ y, y = (σ.drop SlabI.zero sl).2.1 := ⟨_, rfl⟩
  rw [← hth, ← hte] at htd ⊢
  have TD := Lib.hid htd
  clear htd hth hte hm3 a3 k3 f3 hb3 c0 c1 c2
  go_wp2_with fail
  refine TD.out.mono ?_; rintro e w4 ⟨rfl, hm4⟩
  have H4 := Lib.hid hm4
  clear hm4
  go_wp2
  go_ret
  exact ⟨by simp, _, joined H.out.2.2.2.1 H3.out.1 H4.out⟩

set_option maxRecDepth 100000 in
theorem act_hold (h : PairAt w A B F σ σ) (sl x : Int) : Calls Try.prog 25 #[.agg (pairV A B), .agg (actV3 1 sl x)] w fun e w' => e = .returned (.bool true) ∧ ∃ σ', PairMoved w w' A B F σ' σ' := by
  have hwf := h.wf
  have hF := h.lt
  obtain ⟨hb, ha⟩ := box_new w A B 1 sl x
  have h2 := h.adds ha
  have c0 := hb.kind
  have H := Lib.hid (And.intro hwf (And.intro hF (And.intro hb (And.intro ha h2))))
  clear h hwf hF hb ha h2
  go_enter Try.func25, Try.ntmps25
  go_wp2
  refine wp_region_plan (fun w0 => Box w w0 A B 1 sl x) 11 [(0, false), (1, false), (2, false), (3, false), (5, false), (6, false), (7, false), (8, false), (4, true), (9, true), (10, false)] (by kernel_rfl) (by kernel_rfl) ?_ ?_
  · exact H.out.2.2.1.drew
  iterate 8 refine plan_look rfl rfl (fun w0 hS => (by have x0 := hS.s; have x1 := hS.d; have y0 := hS.kind; have y1 := hS.slot; have y2 := hS.x; clear hS; go_simp; try rfl)) ?_
  simp only [Act.put, List.setIfInBounds_toArray, List.set_cons_succ, List.set_cons_zero]
  refine plan_do rfl ?_
  go_wp2_with fail
  refine (hold_s (H.out.2.2.2.2.adds ((Ch.refl _ _).drew)) sl).mono ?_; rintro e w3 ⟨rfl, hm3⟩
  dsimp only
  go_step
  refine wpList_nil ?_
  change _ ∧ _
  have hb3 := H.out.2.2.1.drew.moved H.out.2.1 hm3
  refine ⟨hb3, ?_⟩
  obtain ⟨F3, a3, k3, f3⟩ := id hm3
  have H3 := Lib.hid (And.intro (And.intro a3 (And.intro k3 f3)) hb3)
  have htd := hold_d a3 H.out.1 sl
  obtain ⟨te, hte⟩ : ∃ y, y = (σ.hold sl).1 := ⟨_, rfl⟩
  rw [← hte] at htd ⊢
  have TD := Lib.hid htd
  clear htd hte a3 k3 f3 hb3 hm3
  refine plan_do rfl ?_
  go_wp2_with fail
  refine TD.out.mono ?_; rintro e w4 ⟨rfl, hm4⟩
  dsimp only
  go_step
  refine wpList_nil ?_
  change _ ∧ _
  have hb4 := H3.out.2.moved2 ⟨fun hf => (H3.out.1.2.2 _ hf).elim (fun hx => absurd (H.out.2.1 _ hx) (Nat.lt_irrefl _)) (fun hx => by simp at hx <;> omega), fun hf => (H3.out.1.2.2 _ hf).elim (fun hx => by have := H.out.2.1 _ hx; omega) (fun hx => by simp at hx <;> omega)⟩ hm4
  refine ⟨hb4, ?_⟩
  have H4 := Lib.hid hm4
  clear hm4 hb4
  iterate 1 refine plan_look rfl rfl (fun w0 hS => (by have x0 := hS.s; have x1 := hS.d; have y0 := hS.kind; have y1 := hS.slot; have y2 := hS.x; clear hS; go_simp; try rfl)) ?_
  refine plan_end ?_; simp only [List.drop_succ_cons, List.drop_zero]
  go_wp2
  refine NoPanic.normal ?_
  go_wp2
  go_ret
  exact ⟨by simp, _, joined (H.out.2.2.2.1.drew) H3.out.1 H4.out⟩
end

end Go.Proofs.Ytdgdpbmaalcedaa
