/- audit: Sound of the empty root. -/
import Derived.Test.YtmeglndnkdgkoaaGreatAud1
import Derived.Test.YtmeglndnkdgkoaaGreatList3
import Derived.Test.YtmeglndnkdgkoaaGreatNode1
import Derived.Test.YtmeglndnkdgkoaaGreatPlanG
namespace Go.Proofs.YtmeglndnkdgkoaaGreat.Store
open Go Go.RowKit Go.Shelf Go.Sort Go.Proofs.YtmeglndnkdgkoaaGreat Go.Proofs.YtmeglndnkdgkoaaGreat.ShaW Go.Proofs.YtmeglndnkdgkoaaGreat.Path Go.Proofs.YtmeglndnkdgkoaaGreat.Law9
set_option maxHeartbeats 6400000
set_option linter.unusedVariables false
attribute [local go_sem] Oper.semAt_some

theorem at_act1 {P : Program} {C : Code} {Q : Exit → Act → World → Prop} {a : Act} {w : World} (h : ∀ a0, a0 = a → C.wp P Q a0 w) : C.wp P Q a w := h a rfl
/-- Ints at a new block. -/
theorem ints_new0 (w : World) (l : List Int) : IntsAt (w.alloc (.cells (intL l).toArray 3)) (some ⟨w.heap.size, 0, none⟩) l := fun i x hx => by
  refine ⟨_, _, rfl, ?_⟩
  rw [Nat.zero_add]
  refine row_cell (heap_alloc_new w _) ?_
  simp [intL, hx]
section
variable {w : World} {s : Nat} {F : Nat → Prop} {σ : SlabSt Nd}
set_option maxRecDepth 100000 in
theorem Sound_zero (h : At w s F σ) (G : Good σ) :
    Calls Tryz.prog 44 #[.pointer (some ⟨s, 0, none⟩), .int .i64 0] w fun e w' => e = .returned (.tuple #[.bool true, .int .i64 0]) ∧ Adds w w' := by
  have a0 : Adds w (w.alloc (.cells (intL [0]).toArray 3)) := (Ch.refl _ w).alloc _
  have hi := ints_new0 w [0]
  have hck := check_ok (h.adds a0) 1 hi (by decide)
  have hcz : chk σ [0] = 0 := by unfold chk; rw [if_neg (by decide)]; exact rerr_zero.2 (fun x hx => by simp at hx; subst hx; rfl)
  rw [hcz] at hck
  have hsz := fun w1 (a : Adds w w1) => Size_ok (h.adds a) 0
  have hz0 : (nd σ 0).size = 0 := by rw [nd_none (by unfold SlabSt.get?; rw [if_neg (by omega)])]; rfl
  rw [hz0] at hsz
  have hall := fun w1 (a : Adds w w1) => All_of (S := .pointer (some ⟨s, 0, none⟩)) (R := fun q w' => SeqIs w1.heap.size w' (Tr.nil.from (List.replicate 32 0)) q ∧ Adds w1 w') (From_ok (h.adds a) G .nil rfl (List.replicate 32 0) rfl) ⟨_, rfl⟩
  have hdg := fun w1 (a : Adds w w1) => Digest_ok (h.adds a) 0
  obtain ⟨E, hE⟩ : ∃ E, E = brow Tag.emptyD := ⟨_, rfl⟩
  have hde : digestOf σ 0 = Tag.emptyD := by unfold digestOf; rw [if_pos rfl]
  rw [hde, ← hE] at hdg
  obtain ⟨Z, hZ⟩ : ∃ Z, Z = brow (List.replicate 32 0) := ⟨_, rfl⟩
  have hzd := zeroH
  rw [← hZ] at hzd
  have hEs : E.size = 32 ∧ ∀ v ∈ E.toList, v.oneCell' = true := by rw [hE]; exact ⟨by rw [brow_size]; exact Tag.digest_length _ _, brow_one _⟩
  have heq := eql_keys 118 Tryz.underlying118 Tag.emptyD Tag.emptyD (Tag.digest_length _ _) (Tag.digest_length _ _)
  rw [← hE, decide_eq_true rfl] at heq
  have HZ := Lib.hid (And.intro hzd (by rw [hZ]; rfl : Z.size = 32))
  have HE := Lib.hid (And.intro hEs hE)
  have HQ := Lib.hid (And.intro hck (And.intro hsz (And.intro hall hdg)))
  clear h G hi hck hcz hsz hz0 hall hdg hE hde hZ hzd hEs a0
  refine (callsIn_wide (n := 4)).1 ?_
  refine callsIn_of_wp_marks Tryz.func44 rfl trivial ?_ rfl
  refine wpIn_wide.2 ?_
  simp only [Tryz.ntmps44, List.size_toArray, List.length_cons, List.length_nil, Nat.reduceAdd, Nat.reduceSub, Array.replicate_succ, Array.replicate_zero, List.push_toArray, List.append_toArray, List.nil_append, List.cons_append]
  go_wp2_with fail
  refine HQ.out.1.mono ?_; rintro e w1 ⟨rfl, a1⟩
  have A1 := Lib.hid (((Ch.refl (fun _ => False) w).alloc (.cells (intL [0]).toArray 3)).trans a1 (fun _ h => h.elim))
  clear a1
  go_wp2_with fail
  refine (HQ.out.2.1 _ A1.out).mono ?_; rintro e w2 ⟨rfl, a2⟩
  have A2 := Lib.hid (A1.out.trans a2 (fun _ h => h.elim))
  clear a2 A1
  have HALL := Lib.hid (HQ.out.2.2.1 (w2.alloc (.cells #[.slice none 0 0] 63)) (A2.out.alloc _))
  go_wp2_with fail
  refine HALL.out.mono ?_; rintro e w3 ⟨q, rfl, hq, a3⟩
  obtain ⟨b0, v0, out, rfl, hbb, hrow, htold, hout, hvb, hxb⟩ := hq
  have hnil0 : out = [] := by
    have : out.map Pr.ent = [] := hout
    simpa using this
  subst hnil0
  have HSEQ := Lib.hid (overSeq 3 (by omega) b0 w2.heap.size v0 [] w3 hrow (htold.base' (by simp)) (by simp) (fun x hx => absurd hx List.not_mem_nil))
  have r7 : w3.heap[w2.heap.size]? = some (.cells #[.slice none 0 0] 63 (0, 0)) := a3.row (heap_alloc_new w2 _) id
  have A3 := Lib.hid (And.intro ((A2.out.alloc (.cells #[.slice none 0 0] 63)).trans a3 (fun _ h => h.elim)) r7)
  have hnil : ∀ (w : World), (Go.binOp BinOp.eql 68 (Value.func (Fn.func 175) #[] #[.pointer (some ⟨b0, 0, none⟩)]) Value.nilFunc).run Tryz.prog w = Result.ok (Value.bool false) w := fun w => by kernel_rfl
  clear hrow htold hout hvb hxb hbb a3 r7 HALL
  go_wp2_with fail
  clear hnil
  refine at_act1 (fun A0 hA0 => ?_)
  have HA0 := Lib.hid hA0
  refine (wpIn_wide (n := 4)).1 ?_
  refine wpIn_rangeY (α := Pr) rfl (by omega) (gf := 175) (by rw [hA0]; rfl) trivial (enters_of Tryz.func175 (by kernel_rfl) rfl) HSEQ.out belowK_t (belowK_b (Nat.le_refl _)) (Below.refl _ _) (fun _ => rfl)
    (fun pre W => Adds w3 W) (fun _ _ _ => False) (fun s W W' row hs hg hr => hs.grown hg (fun k hk => .inr (hr k hk).1)) (fun c => fun s W W' row hs hg hr => hs) (Ch.refl _ _) (fun pre x a W => False) (fun pre x a W l o o' h _ _ _ => h) ?assign ?body ?done ?stop
  case assign => intro l0 pre x W hI hY hlt; exact absurd hlt (Nat.not_lt_zero _)
  case body => intro l0 pre x a W hB hlt; exact absurd hlt (Nat.not_lt_zero _)
  case done =>
    intro D xs W hD hS hI hK
    have r7 : W.heap[w2.heap.size]? = some (.cells #[.slice none 0 0] 63 (0, 0)) := hI.row A3.out.2 id
    have c7 := row_cell r7 (i := 0) rfl
    have hrt := Law9.Root_ok (w := W) (ao := none) (l := []) 0 ⟨(fun x hx => absurd hx List.not_mem_nil), fun i x hi => (by simp at hi)⟩
    have AW := Lib.hid (And.intro (A3.out.1.trans hI (fun _ h => h.elim)) (And.intro hK hD))
    have HRT := Lib.hid hrt
    rw [hA0]
    clear hA0 hI hK hD r7 hrt
    go_wp2_with fail
    refine HRT.out.mono ?_; rintro e W2 ⟨a2, hb, c, rfl, hb1, hfi, hfd⟩
    have hfine : FineP [] := ⟨by simp, (fun x hx => absurd hx List.not_mem_nil), List.nodup_nil⟩
    obtain rfl : c = 0 := hfi.2 hfine
    have hbe : hb = Tag.emptyD := by
      rw [hfd hfine]
      show (tree 256 []).dig = _
      rw [tree_nil]; rfl
    rw [hbe, ← HE.out.2]
    have hK2 : W2.heap[D]? = some (.deferred (some [])) := a2.row AW.out.2.1 id
    have A2' := Lib.hid (And.intro (AW.out.1.trans a2 (fun _ h => h.elim)) hK2)
    clear a2 hfi hfd hbe hb1 hfine hK2 c7 HRT
    go_upto_region 11 with (first
      | fail
      | ((with_reducible show wpList _ _ _ (⟨_, .alloc 118, _, _, _, _⟩ :: _) _ _); refine wpList_alloc_is rfl 118 rfl (.agg Z) HZ.out.1 ?_; dsimp only [Value.cells]; try simp only [World.size_alloc])
      | ((with_reducible show wpList _ _ _ (⟨_, .store 118 _ _, _, _, _, _⟩ :: _) _ _); refine wpList_store_part rfl 118 _ _ rfl W2.heap.size 0 E rfl rfl (heap_alloc_new _ _) (by rw [sizeH, HE.out.1.1]) (by rw [HE.out.1.1, HZ.out.2]; omega) HE.out.1.2 E (by rw [splice_all _ _ (by rw [Array.length_toList, Array.length_toList, HE.out.1.1, HZ.out.2])]) ?_))
    obtain ⟨w4, hw4⟩ : ∃ w4, w4 = (W2.alloc (.cells Z 118)).setRow W2.heap.size E := ⟨_, rfl⟩
    rw [← hw4]
    have a4 : Adds W2 w4 := by rw [hw4]; exact ((Ch.refl _ _).alloc _).setRow (.inr (Nat.le_refl _)) _
    have r4 : w4.heap[W2.heap.size]? = some (.cells E 118 (0, 0)) := by rw [hw4]; exact row_setRow_same (heap_alloc_new _ _) _
    obtain ⟨B, hB⟩ : ∃ B, B = W2.heap.size := ⟨_, rfl⟩
    rw [← hB] at r4 ⊢
    have H4 := Lib.hid (And.intro (A2'.out.1.trans a4 (fun _ h => h.elim)) (And.intro r4 (a4.row A2'.out.2 id)))
    have H4D : RowKit.Hid (Adds w w4.drew) := Lib.hid (H4.out.1.trans (Ch.refl (fun _ => False) w4).drew (fun _ h => h.elim))
    clear a4 r4 hw4 hB
    go_wp2
    refine wp_region_plan (fun wz => Adds w wz ∧ wz.heap[B]? = some (.cells E 118 (0, 0)) ∧ wz.heap[D]? = some (.deferred (some []))) 11 [(0, false), (1, false), (2, false), (3, false), (4, false), (5, false), (6, true), (7, false), (8, false), (9, false), (10, false)] (by kernel_rfl) (by kernel_rfl) ?_ ?_
    · exact ⟨H4D.out, row_drew H4.out.2.1, row_drew H4.out.2.2⟩
    iterate 3
      refine plan_look rfl rfl (fun w0 hS => (by clear hS; go_simp; try rfl)) ?_
      simp only [Act.put, List.setIfInBounds_toArray, List.set_cons_succ, List.set_cons_zero]
    refine Law9.plan_gload_part (cur := E) (t := 118) (fr := (0, 0)) rfl rfl 118 _ rfl B 0 32 rfl (fun w0 hS => hS.2.1) Tryz.underlying118 rfl sizeH (by rw [HE.out.1.1]; omega) E (by have := HE.out.1.1; simp [← this]) ?_
    simp only [Act.put, List.setIfInBounds_toArray, List.set_cons_succ, List.set_cons_zero]
    iterate 2
      refine plan_look rfl rfl (fun w0 hS => (by clear hS; go_simp; try rfl)) ?_
      simp only [Act.put, List.setIfInBounds_toArray, List.set_cons_succ, List.set_cons_zero]
    refine plan_do rfl ?_
    go_wp2_with fail
    refine (HQ.out.2.2.2 _ H4D.out).mono ?_; rintro e w5 ⟨rfl, a5⟩
    have H5 := Lib.hid (And.intro (H4D.out.trans a5 (fun _ h => h.elim)) (And.intro (a5.row (row_drew H4.out.2.1) id) (a5.row (row_drew H4.out.2.2) id)))
    clear a5
    dsimp only
    go_step
    refine wpList_nil ?_
    change _ ∧ _
    refine ⟨H5.out, ?_⟩
    refine plan_look (v := .bool true) rfl rfl (fun w0 hS => (by clear hS; have := heq w0; go_simp; try rfl)) ?_
    simp only [Act.put, List.setIfInBounds_toArray, List.set_cons_succ, List.set_cons_zero]
    iterate 3
      refine plan_look rfl rfl (fun w0 hS => (by clear hS; go_simp; try rfl)) ?_
      simp only [Act.put, List.setIfInBounds_toArray, List.set_cons_succ, List.set_cons_zero]
    refine plan_end ?_; simp only [List.drop_succ_cons, List.drop_zero]
    go_wp2
    refine NoPanic.normal ?_
    go_wp2
    refine ⟨by simp, .inl ⟨_, _, rfl, run_takeDeferred H5.out.2.2, ?_⟩⟩
    refine ⟨.tuple #[.bool true, .int .i64 0], ?_, rfl, H5.out.1.grown (grownBy_putObj' _ D (.deferred none)) (fun k hk => .inr (by cases hk; have := AW.out.2.2; have := A3.out.1.size; omega))⟩
    simp [results, Tryz.f44, go_sem]
  case stop => intro D c pre W hD hS hI; exact hI.elim
end
end Go.Proofs.YtmeglndnkdgkoaaGreat.Store
