/- SlabScript: one call of both slabs: the slots told, written over, told again. -/
import Derived.Test.YtdgdpbmaalcedaaActs6c
namespace Go.Proofs.Ytdgdpbmaalcedaa
open Go Go.RowKit
set_option maxHeartbeats 3200000
set_option linter.unusedVariables false

section
variable {w : World} {A B : Nat} {F : Nat → Prop} {σ τ : SlabSt}
/-- Within the call, the slots told twice. 'c': the first told row's last block's bound. -/
structure Five (w wr : World) (A B : Nat) (F : Nat → Prop) (σ : SlabSt) (sl x : Int) (v1 v2 : Value) (b : Nat) : Prop where
  box : Box w wr A B 5 sl x
  pair : PairAt wr A B F σ σ
  one : wr.ownsRow (w.heap.size + 2) 3 1 v1 σ.told.length (σ.told.map (Value.int .i64))
  apart : ∀ k, v1.ownBlock = some k → k < b
  two : wr.ownsRow b 3 1 v2 σ.told.length (σ.told.map (Value.int .i64))
  adds : Ref6.Adds w wr
theorem Five.and {wr w2 : World} {sl x : Int} {v1 v2 : Value} {b : Nat} (h : Five w wr A B F σ sl x v1 v2 b) (ha : Ref6.Adds wr w2) : Five w w2 A B F σ sl x v1 v2 b :=
  ⟨h.box.adds ha, h.pair.adds ha, ha.owns h.one (fun _ _ h => h), h.apart, ha.owns h.two (fun _ _ h => h), h.adds.trans ha (fun _ h => h.elim)⟩
theorem told_small (h : PairAt w A B F σ τ) : σ.told.length ≤ 65536 := by
  have h1 := h.wf.len
  have h2 := h.wf.room
  have h3 := σ.occ_len σ.slots.length
  rw [told_len]
  omega

set_option maxRecDepth 100000 in
theorem act_five (h : PairAt w A B F σ σ) (sl x : Int) : Calls Try.prog 25 #[.agg (pairV A B), .agg (actV3 5 sl x)] w fun e w' => e = .returned (.bool true) ∧ ∃ σ', PairMoved w w' A B F σ' σ' := by
  have HP := Lib.hid h
  have hwf := h.wf
  have hF := h.lt
  have hn := told_small h
  obtain ⟨hb, ha⟩ := box_new w A B 5 sl x
  have h2 := h.adds ha
  have c0 := hb.kind
  have hsz : ((w.alloc (.cells (pairV A B) 53)).alloc (.cells (actV3 5 sl x) 40)).heap.size = w.heap.size + 2 := by simp
  have H := Lib.hid (And.intro hwf (And.intro hF (And.intro hb (And.intro ha (And.intro h2 hsz)))))
  clear h hwf hF hb ha h2 hsz
  go_enter Try.func25, Try.ntmps25
  go_upto_region 19 with fail
  refine wp_region_plan (fun w0 => Box w w0 A B 5 sl x) 7 [(0, false), (1, false), (3, false), (4, false), (2, true), (5, true), (6, false)] (by kernel_rfl) (by kernel_rfl) ?_ ?_
  · exact H.out.2.2.1.drew
  iterate 4 refine plan_look rfl rfl (fun w0 hS => (by have x0 := hS.s; have x1 := hS.d; have y0 := hS.kind; have y1 := hS.slot; have y2 := hS.x; clear hS; go_simp; try rfl)) ?_
  simp only [Act.put, List.setIfInBounds_toArray, List.set_cons_succ, List.set_cons_zero]
  refine plan_do rfl ?_
  go_wp2_with fail
  refine (slots_s (H.out.2.2.2.2.1.adds ((Ch.refl _ _).drew))).mono ?_; rintro e w3 ⟨v1, rfl, o1, a3⟩
  dsimp only
  go_step
  refine wpList_nil ?_
  change _ ∧ _
  have a3' : Ref6.Adds _ w3 := ((Ch.refl (fun _ => False) _).drew).trans a3 (fun _ h => h.elim)
  have hp3 := H.out.2.2.2.2.1.adds a3'
  have o1' : w3.ownsRow (w.heap.size + 2) 3 1 v1 σ.told.length (σ.told.map (Value.int .i64)) := by rw [← H.out.2.2.2.2.2]; exact o1
  have H3 := Lib.hid (And.intro (H.out.2.2.1.adds a3') (And.intro hp3 (And.intro o1' a3')))
  clear o1 a3 a3' hp3 o1'
  refine ⟨H3.out.1, ?_⟩
  refine plan_do rfl ?_
  go_wp2_with fail
  refine (slots_s H3.out.2.1).mono ?_; rintro e w4 ⟨v2, rfl, o2, a4⟩
  dsimp only
  go_step
  refine wpList_nil ?_
  change _ ∧ _
  have hf4 : Five w w4 A B F σ sl x v1 v2 w3.heap.size :=
    ⟨H3.out.1.adds a4, H3.out.2.1.adds a4, a4.owns H3.out.2.2.1 (fun _ _ h => h), fun k hk => (H3.out.2.2.1.lt k hk).2, o2, H.out.2.2.2.1.trans (H3.out.2.2.2.trans a4 (fun _ h => h.elim)) (fun _ h => h.elim)⟩
  obtain ⟨b, hb⟩ : ∃ b, b = w3.heap.size := ⟨_, rfl⟩
  rw [← hb] at hf4
  have hbw : w.heap.size + 2 ≤ b := by rw [hb, ← H.out.2.2.2.2.2]; exact H3.out.2.2.2.size
  have H4 := Lib.hid hf4
  clear hf4 a4 o2 hb
  refine ⟨H4.out.box, ?_⟩
  iterate 1 refine plan_look rfl rfl (fun w0 hS => (by have x0 := hS.s; have x1 := hS.d; have y0 := hS.kind; have y1 := hS.slot; have y2 := hS.x; clear hS; go_simp; try rfl)) ?_
  simp only [Act.put, List.setIfInBounds_toArray, List.set_cons_succ, List.set_cons_zero]
  refine plan_end ?_; simp only [List.drop_succ_cons, List.drop_zero]
  go_wp2
  refine NoPanic.normal ?_
  go_upto_region 20 with fail
  refine wp_region_plan (fun w0 => Box w w0 A B 5 sl x) 28 [(0, false), (1, false), (2, false), (3, true), (4, true), (5, false), (6, false), (7, false), (8, true), (9, false), (10, false), (11, false), (12, false), (14, false), (15, false), (13, true), (16, true), (17, false), (18, false), (19, false), (20, false), (21, false), (23, false), (24, false), (22, true), (25, true), (26, false), (27, false)] (by kernel_rfl) (by kernel_rfl) ?_ ?_
  · exact H4.out.box.drew
  iterate 3 refine plan_look rfl rfl (fun w0 hS => (by have x0 := hS.s; have x1 := hS.d; have y0 := hS.kind; have y1 := hS.slot; have y2 := hS.x; clear hS; go_simp; try rfl)) ?_
  simp only [Act.put, List.setIfInBounds_toArray, List.set_cons_succ, List.set_cons_zero]
  refine plan_do rfl ?_
  go_wp2_with fail
  have h4d := H4.out.and ((Ch.refl _ _).drew)
  refine (slots_d h4d.pair H.out.1).mono ?_; rintro e w5 ⟨v3, rfl, o3, a5⟩
  dsimp only
  go_step
  refine wpList_nil ?_
  change _ ∧ _
  have H5 := Lib.hid (And.intro (h4d.and a5) o3)
  clear h4d a5 o3
  refine ⟨H5.out.1.box, ?_⟩
  refine plan_do rfl ?_
  go_wp2_with fail
  refine (SameInts_ok H5.out.1.one H5.out.2 hn).mono ?_; rintro e w6 ⟨rfl, a6⟩
  dsimp only
  go_step
  refine wpList_nil ?_
  change _ ∧ _
  have H6 := Lib.hid (H5.out.1.and a6)
  clear a6
  refine ⟨H6.out.box, ?_⟩
  refine plan_look (v := .bool true) rfl rfl (fun w0 hS => (by clear hS; go_simp; try rfl)) ?_
  simp only [Act.put, List.setIfInBounds_toArray, List.set_cons_succ, List.set_cons_zero]
  iterate 1 refine plan_look rfl rfl (fun w0 hS => (by have x0 := hS.s; have x1 := hS.d; have y0 := hS.kind; have y1 := hS.slot; have y2 := hS.x; clear hS; go_simp; try rfl)) ?_
  simp only [Act.put, List.setIfInBounds_toArray, List.set_cons_succ, List.set_cons_zero]
  iterate 1 refine plan_look rfl rfl (fun w0 hS => (by have x0 := hS.s; have x1 := hS.d; have y0 := hS.kind; have y1 := hS.slot; have y2 := hS.x; clear hS; go_simp; try rfl)) ?_
  simp only [Act.put, List.setIfInBounds_toArray, List.set_cons_succ, List.set_cons_zero]
  refine plan_do rfl ?_
  go_wp2_with fail
  refine (SameInts_ok H6.out.two H6.out.one hn).mono ?_; rintro e w7 ⟨rfl, a7⟩
  dsimp only
  go_step
  refine wpList_nil ?_
  change _ ∧ _
  have H7 := Lib.hid (H6.out.and a7)
  clear a7
  refine ⟨H7.out.box, ?_⟩
  refine plan_look (v := .bool true) rfl rfl (fun w0 hS => (by clear hS; go_simp; try rfl)) ?_
  simp only [Act.put, List.setIfInBounds_toArray, List.set_cons_succ, List.set_cons_zero]
  refine plan_look (v := .bool true) rfl rfl (fun w0 hS => (by clear hS; go_simp; try rfl)) ?_
  simp only [Act.put, List.setIfInBounds_toArray, List.set_cons_succ, List.set_cons_zero]
  iterate 1 refine plan_look rfl rfl (fun w0 hS => (by have x0 := hS.s; have x1 := hS.d; have y0 := hS.kind; have y1 := hS.slot; have y2 := hS.x; clear hS; go_simp; try rfl)) ?_
  simp only [Act.put, List.setIfInBounds_toArray, List.set_cons_succ, List.set_cons_zero]
  iterate 1 refine plan_look rfl rfl (fun w0 hS => (by have x0 := hS.s; have x1 := hS.d; have y0 := hS.kind; have y1 := hS.slot; have y2 := hS.x; clear hS; go_simp; try rfl)) ?_
  simp only [Act.put, List.setIfInBounds_toArray, List.set_cons_succ, List.set_cons_zero]
  iterate 1 refine plan_look rfl rfl (fun w0 hS => (by have x0 := hS.s; have x1 := hS.d; have y0 := hS.kind; have y1 := hS.slot; have y2 := hS.x; clear hS; go_simp; try rfl)) ?_
  simp only [Act.put, List.setIfInBounds_toArray, List.set_cons_succ, List.set_cons_zero]
  iterate 1 refine plan_look rfl rfl (fun w0 hS => (by have x0 := hS.s; have x1 := hS.d; have y0 := hS.kind; have y1 := hS.slot; have y2 := hS.x; clear hS; go_simp; try rfl)) ?_
  simp only [Act.put, List.setIfInBounds_toArray, List.set_cons_succ, List.set_cons_zero]
  refine plan_do rfl ?_
  go_wp2_with fail
  refine (len_s H7.out.pair).mono ?_; rintro e w8 ⟨rfl, rfl⟩
  dsimp only
  go_step
  refine wpList_nil ?_
  change _ ∧ _
  refine ⟨H7.out.box, ?_⟩
  refine plan_do rfl ?_
  go_wp2_with fail
  refine (len_d H7.out.pair H.out.1).mono ?_; rintro e w8 ⟨rfl, a8⟩
  dsimp only
  go_step
  refine wpList_nil ?_
  change _ ∧ _
  have H8 := Lib.hid (H7.out.and a8)
  clear a8
  refine ⟨H8.out.box, ?_⟩
  refine plan_look (v := .bool true) rfl rfl (fun w0 hS => (by clear hS; go_simp; try rfl)) ?_
  simp only [Act.put, List.setIfInBounds_toArray, List.set_cons_succ, List.set_cons_zero]
  refine plan_look (v := .bool true) rfl rfl (fun w0 hS => (by clear hS; go_simp; try rfl)) ?_
  simp only [Act.put, List.setIfInBounds_toArray, List.set_cons_succ, List.set_cons_zero]
  refine plan_look (v := .bool true) rfl rfl (fun w0 hS => (by clear hS; go_simp; try rfl)) ?_
  simp only [Act.put, List.setIfInBounds_toArray, List.set_cons_succ, List.set_cons_zero]
  iterate 1 refine plan_look rfl rfl (fun w0 hS => (by have x0 := hS.s; have x1 := hS.d; have y0 := hS.kind; have y1 := hS.slot; have y2 := hS.x; clear hS; go_simp; try rfl)) ?_
  simp only [Act.put, List.setIfInBounds_toArray, List.set_cons_succ, List.set_cons_zero]
  iterate 1 refine plan_look rfl rfl (fun w0 hS => (by have x0 := hS.s; have x1 := hS.d; have y0 := hS.kind; have y1 := hS.slot; have y2 := hS.x; clear hS; go_simp; try rfl)) ?_
  simp only [Act.put, List.setIfInBounds_toArray, List.set_cons_succ, List.set_cons_zero]
  iterate 1 refine plan_look rfl rfl (fun w0 hS => (by have x0 := hS.s; have x1 := hS.d; have y0 := hS.kind; have y1 := hS.slot; have y2 := hS.x; clear hS; go_simp; try rfl)) ?_
  simp only [Act.put, List.setIfInBounds_toArray, List.set_cons_succ, List.set_cons_zero]
  iterate 1 refine plan_look rfl rfl (fun w0 hS => (by have x0 := hS.s; have x1 := hS.d; have y0 := hS.kind; have y1 := hS.slot; have y2 := hS.x; clear hS; go_simp; try rfl)) ?_
  simp only [Act.put, List.setIfInBounds_toArray, List.set_cons_succ, List.set_cons_zero]
  refine plan_do rfl ?_
  go_wp2_with fail
  refine (room_s H8.out.pair).mono ?_; rintro e w9 ⟨rfl, rfl⟩
  dsimp only
  go_step
  refine wpList_nil ?_
  change _ ∧ _
  refine ⟨H8.out.box, ?_⟩
  refine plan_do rfl ?_
  go_wp2_with fail
  refine (room_d H8.out.pair).mono ?_; rintro e w9 ⟨rfl, rfl⟩
  dsimp only
  go_step
  refine wpList_nil ?_
  change _ ∧ _
  refine ⟨H8.out.box, ?_⟩
  refine plan_look (v := .bool true) rfl rfl (fun w0 hS => (by clear hS; go_simp; try rfl)) ?_
  simp only [Act.put, List.setIfInBounds_toArray, List.set_cons_succ, List.set_cons_zero]
  refine plan_look (v := .bool true) rfl rfl (fun w0 hS => (by clear hS; go_simp; try rfl)) ?_
  simp only [Act.put, List.setIfInBounds_toArray, List.set_cons_succ, List.set_cons_zero]
  refine plan_end ?_; simp only [List.drop_succ_cons, List.drop_zero]
  go_wp2
  refine NoPanic.normal ?_
  obtain ⟨a1, c1, e1⟩ := owns_form H8.out.one
  obtain ⟨m, hm⟩ : ∃ m, m = σ.told.length := ⟨_, rfl⟩
  rw [← hm] at e1 hn
  have HE := Lib.hid (And.intro e1 hm)
  have hone := H8.out.one
  rw [e1, ← HE.out.2] at hone
  subst e1
  have HO := Lib.hid hone
  clear hm hone
  go_wp2
  go_loopg [20] m (fun g s20 wr => ∃ (k : Nat) (xs : List Value), k ≤ m ∧ g = m - k ∧ s20 = .int .i64 k ∧ wr.ownsRow (w.heap.size + 2) 3 1 (.slice a1 m c1) m xs ∧ Ch (fun j => (Value.slice a1 m c1).ownBlock = some j) w8 wr)
  case atStart => exact ⟨0, _, Nat.zero_le _, rfl, rfl, HO.out, Ch.refl _ _⟩
  case round =>
    obtain ⟨k, xs, hk, rfl, rfl, hown, hA⟩ := hrel
    by_cases hkl : k < m
    · obtain ⟨g1, d1, q1⟩ := own_where hown (by omega)
      have hset := Ref6.row_set' hown (m := k) (g := g1) (by rw [q1]; rfl) hkl (.int .i64 (-7))
      have hch := hA.setCell (p := ⟨g1, k, none⟩) (.inl (by rw [q1]; rfl)) (.int .i64 (-7))
      cases q1
      have hlx := hown.1
      obtain ⟨y, hy⟩ : ∃ y, xs[k]? = some y := ⟨_, List.getElem?_eq_getElem (by omega)⟩
      have f1 := own_cell' hown rfl hkl hy
      obtain ⟨g', cap, cur, h1, hg, _, _, _, q⟩ := owns_block hown (by omega)
      cases h1
      have f2 := row_free hg k
      have hkz : (k : Int) < (m : Int) := by omega
      have HS := Lib.hid (And.intro hset hch)
      clear hset hch hown hA hg q hlx hy
      go_wp2
      go_roundg (m - (k + 1))
      case measure => omega
      case rel => exact ⟨k + 1, _, by omega, rfl, by go_num, HS.out.1, HS.out.2⟩
    · obtain rfl : k = m := by omega
      have hb9 : Box w wr A B 5 sl x := ⟨hA.row H8.out.box.1 (fun hq => by have := (HO.out.lt _ hq).1; omega), hA.row H8.out.box.2 (fun hq => by have := (HO.out.lt _ hq).1; omega)⟩
      have ha9 : Ref6.Adds w wr := H8.out.adds.trans hA (fun j hj => .inr (by have := (HO.out.lt _ hj).1; omega))
      have ht9 := hA.owns H8.out.two (fun j hj hq => by have h1 := H8.out.apart j hq; have h2 := (H8.out.two.lt j hj).1; omega)
      have d1 := hb9.d
      have H9 := Lib.hid (And.intro ha9 (And.intro ht9 (HP.out.adds ha9)))
      clear hb9 ha9 ht9 hown hA
      go_wp2_with fail
      refine (slots_d H9.out.2.2 H.out.1).mono ?_; rintro e w10 ⟨v4, rfl, o4, a10⟩
      have o5 := a10.owns H9.out.2.1 (fun _ _ h => h)
      have H10 := Lib.hid (And.intro o4 (And.intro o5 a10))
      clear o4 o5 a10
      go_wp2_with fail
      refine (SameInts_ok H10.out.2.1 H10.out.1 (by rw [← HE.out.2]; exact hn)).mono ?_; rintro e w11 ⟨rfl, a11⟩
      have H11 := Lib.hid a11
      clear a11
      go_wp2
      go_ret
      exact ⟨by simp, σ, HP.out.same ((H9.out.1.trans H10.out.2.2 (fun _ h => h.elim)).trans H11.out (fun _ h => h.elim))⟩
end

end Go.Proofs.Ytdgdpbmaalcedaa
