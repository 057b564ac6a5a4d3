/- ListAll: all, in order, once: the walk. -/
import Derived.Test.YtfllneenonhonaaGreatAll13
import Derived.Test.YtfllneenonhonaaGreatRanks13
import Derived.Test.YtfllneenonhonaaGreatSeqG13
namespace Go.Proofs.YtfllneenonhonaaGreat.Law13
open Go Go.RowKit Go.Shelf Go.Sort Go.Proofs.YtfllneenonhonaaGreat Go.Proofs.YtfllneenonhonaaGreat.ShaW Go.Proofs.YtfllneenonhonaaGreat.Path Go.Proofs.YtfllneenonhonaaGreat.Store Go.Proofs.YtfllneenonhonaaGreat.Law9
set_option maxHeartbeats 12800000
set_option linter.unusedVariables false
attribute [local go_sem] Oper.semAt_some

theorem wpListIn_gload_part {F : Fence} {n : Nat} {P : Program} {w : World} {ops : Array Oper} {rest : List Oper} {o : Oper} {a : Act} {Q : Exit → Act → World → Prop} (hw : Region.wanted o (yielded ops a.tmps) = true) (ty : TypeId) (x : Operand) (ho : o.op = .load ty x)
    (g off : Nat) (hx : a.eval x = .pointer (some ⟨g, off, none⟩)) {t : TypeId} {cur : Array Value} {fr : Nat × Nat} {m : Nat} {d : TypeDesc} (hg : w.heap[g]? = some (.cells cur t fr)) (hu : P.underlying ty = some d)
    (hd : d.isRow = true) (hi : (P.info? ty).map (·.size) = some m) (hfit : off + m ≤ cur.size) (cs : Array Value) (hv : cur.extract off (off + m) = cs)
    (h : wpListIn F n P ops Q rest (a.put o.dst (.agg cs)) w) : wpListIn F n P ops Q (o :: rest) a w :=
  wpListIn_step fun K hK => by
    rw [if_pos hw]
    unfold Oper.wpIn
    refine ⟨?_, ?_⟩
    · simp [Oper.about, ho]
    · rw [Oper.semAt_plain F _ _ (by rw [ho]; intro c hc'; cases hc')]
      unfold execOp
      simp only [ho, hx, Instr.loadAt, Instr.sureAddr, Sem.run_bind, Sem.run_pure, Result.andThen_ok, run_load_part w hg hu hd hi hfit, hv]
      exact hK _ _ h
theorem at_world {P : Program} {C : Code} {Q : Exit → Act → World → Prop} {a : Act} {w : World} (h : ∀ w0, w0 = w → C.wp P Q a w0) : C.wp P Q a w := h w rfl
/-- A sorted list's entry: its rank is its place. -/
theorem rank_at {t : Tr} (hs : t.ents.Pairwise Ltk) {m : Nat} {e : List UInt8 × List UInt8} (he : t.ents[m]? = some e) : t.rank e.1 = m := by
  obtain ⟨h1, h2⟩ := List.getElem?_eq_some_iff.1 he
  have hE : t.ents = t.ents.take m ++ e :: t.ents.drop (m + 1) := by
    conv => lhs; rw [← List.take_append_drop m t.ents, List.drop_eq_getElem_cons h1, h2]
  have hs' := hs
  rw [hE] at hs'
  obtain ⟨p1, p2, p3⟩ := List.pairwise_append.1 hs'
  obtain ⟨p4, p5⟩ := List.pairwise_cons.1 p2
  unfold Tr.rank
  rw [hE, List.filter_append, List.filter_cons]
  have hA : (t.ents.take m).filter (ltK e.1) = t.ents.take m := List.filter_eq_self.2 fun a ha => by
    have h := p3 a ha e (List.mem_cons_self ..)
    exact decide_eq_true h
  have hB : (t.ents.drop (m + 1)).filter (ltK e.1) = [] := List.filter_eq_nil_iff.2 fun b hb => by
    have h := p4 b hb
    unfold ltK
    simp only [decide_eq_true_eq]
    intro h'
    have := cmp_lt_trans _ _ _ h h'
    rw [cmp_self] at this
    omega
  rw [hA, hB, if_neg (by unfold ltK; simp [cmp_self])]
  simp
  omega
theorem before_at {t : Tr} (hs : t.ents.Pairwise Ltk) {m : Nat} {e f : List UInt8 × List UInt8} (hf : t.ents[m]? = some f) (he : t.ents[m + 1]? = some e) : Lib.compareBytes f.1 e.1 < 0 := by
  obtain ⟨h1, rfl⟩ := List.getElem?_eq_some_iff.1 hf
  obtain ⟨h3, rfl⟩ := List.getElem?_eq_some_iff.1 he
  exact List.pairwise_iff_getElem.1 hs m (m + 1) h1 h3 (Nat.lt_succ_self m)
/-- What stands round by round: the pairs, the store, its root, how many have come, the last key. -/
structure AlI (w4 W : World) (B2 B8 B9 B11 B12 s : Nat) (root : Int) (pv : Value) (m : Nat) (last : List UInt8) : Prop where
  adds : Adds w4 W
  r2 : W.heap[B2]? = some (.cells #[pv] 33 (0, 0))
  r8 : ∃ ty, W.heap[B8]? = some (.cells #[.pointer (some ⟨s, 0, none⟩)] ty (0, 0))
  r9 : W.heap[B9]? = some (.cells #[.int .i64 root] 3 (0, 0))
  r11 : W.heap[B11]? = some (.cells #[.int .i64 (m : Nat)] 3 (0, 0))
  r12 : W.heap[B12]? = some (.cells (brow last) 24 (0, 0))

section
variable {w4 W W' : World} {B2 B8 B9 B11 B12 s m : Nat} {root : Int} {pv : Value} {last : List UInt8}
theorem AlI.keep (h : AlI w4 W B2 B8 B9 B11 B12 s root pv m last) (a : Adds W W') : AlI w4 W' B2 B8 B9 B11 B12 s root pv m last :=
  ⟨h.adds.trans a (fun _ h => h.elim), a.row h.r2 id, h.r8.imp fun _ h => a.row h id, a.row h.r9 id, a.row h.r11 id, a.row h.r12 id⟩
theorem AlI.turn (h : AlI w4 W B2 B8 B9 B11 B12 s root pv m last) {row : Option Nat} (hg : W.grownBy W' row) (hr : ∀ k, row = some k → w4.heap.size ≤ k ∧ k ≠ B2 ∧ k ≠ B8 ∧ k ≠ B9 ∧ k ≠ B11 ∧ k ≠ B12) : AlI w4 W' B2 B8 B9 B11 B12 s root pv m last := by
  have hb : ∀ {k : Nat} {o : Obj}, (k = B2 ∨ k = B8 ∨ k = B9 ∨ k = B11 ∨ k = B12) → W.heap[k]? = some o → W'.heap[k]? = some o := fun {k o} hk h => (hg.block _ (row_lt h) (fun e => by
    obtain ⟨_, q1, q2, q3, q4, q5⟩ := hr k e.symm
    rcases hk with e | e | e | e | e
    · exact q1 e
    · exact q2 e
    · exact q3 e
    · exact q4 e
    · exact q5 e)).trans h
  exact ⟨h.adds.grown hg (fun k hk => .inr (hr k hk).1), hb (.inl rfl) h.r2, h.r8.imp fun _ h => hb (.inr (.inl rfl)) h, hb (.inr (.inr (.inl rfl))) h.r9, hb (.inr (.inr (.inr (.inl rfl)))) h.r11, hb (.inr (.inr (.inr (.inr rfl)))) h.r12⟩
end
def lastK (pre : List Pr) : List UInt8 := match pre.getLast? with
  | some x => x.key
  | none => List.replicate 32 0
theorem lastK_next (pre : List Pr) (x : Pr) : lastK (pre ++ [x]) = x.key := by simp [lastK]

set_option maxRecDepth 100000 in
theorem all_law {w : World} {ao : Option Addr} {l : List Pr} (cap : Nat) (hl : PairsAt w ao l) (most : Int) (hmost : (Lit.int .i64 most).wf = true) :
    Calls Tryz.prog 5 #[.slice ao l.length cap, .int .i64 most] w fun e w' => e = .returned (.bool true) ∧ Adds w w' := by
  obtain ⟨n, hn⟩ : ∃ n, n = l.length := ⟨_, rfl⟩
  obtain ⟨Z, hZ⟩ : ∃ Z, Z = brow (List.replicate 32 0) := ⟨_, rfl⟩
  have hzh := zeroP
  have hzd := zeroH
  have hbt : Tryz.prog.built 24 [] = some (brow (List.replicate 32 0)) := key_built
  rw [← hZ] at hzh hzd hbt
  have hZs : Z.size = 32 ∧ ∀ v ∈ Z.toList, v.oneCell' = true := by rw [hZ]; exact ⟨rfl, brow_one _⟩
  have HZ := Lib.hid (And.intro hzh (And.intro hzd (And.intro hZs.1 (And.intro hbt (And.intro hZs.2 hZ)))))
  rw [← hn]
  obtain ⟨wb, hwb⟩ : ∃ wb, wb = (w.alloc (.cells #[.slice ao n cap] 33)).alloc (.cells #[.bool false] 4) := ⟨_, rfl⟩
  have h1 : wb.heap[w.heap.size]? = some (.cells #[.slice ao n cap] 33 (0, 0)) := by rw [hwb]; exact row_alloc (heap_alloc_new _ _) _
  have h2 : wb.heap[w.heap.size + 1]? = some (.cells #[.bool false] 4 (0, 0)) := by
    rw [hwb]
    have := heap_alloc_new (w.alloc (.cells #[.slice ao n cap] 33)) (.cells #[.bool false] 4)
    simpa using this
  have hab : Adds w wb := by rw [hwb]; exact ((Ch.refl _ _).alloc _).alloc _
  obtain ⟨B2, hB2⟩ : ∃ B, B = w.heap.size := ⟨_, rfl⟩
  obtain ⟨B4, hB4⟩ : ∃ B, B = B2 + 1 := ⟨_, rfl⟩
  rw [← hB2] at h1
  rw [← hB2, ← hB4] at h2
  have HW := Lib.hid (And.intro hab (And.intro h1 h2))
  have HWB := Lib.hid (And.intro hwb (And.intro hB2 hB4))
  have HN := Lib.hid hn
  have HL := Lib.hid hl
  have HM := Lib.hid hmost
  clear hZ hzh hzd hbt hZs hn h1 h2 hab hwb hl hmost
  refine (callsIn_wide (n := 4)).1 ?_
  refine callsIn_of_wp_marks Tryz.func5 rfl trivial ?_ rfl
  refine wpIn_wide.2 ?_
  simp only [Tryz.ntmps5, List.size_toArray, List.length_cons, List.length_nil, Nat.reduceAdd, Nat.reduceSub, Array.replicate_succ, Array.replicate_zero, List.push_toArray, List.append_toArray, List.nil_append, List.cons_append]
  go_wp2_with fail
  rw [← HWB.out.1]
  simp only [← HWB.out.2.1]
  rw [← HWB.out.2.2]
  clear hB2 hB4
  refine (awake_ok wb).mono ?_; rintro e w1 ⟨rfl, a1⟩
  have A1 := Lib.hid (And.intro (HW.out.1.trans a1 (fun _ h => h.elim)) (And.intro (a1.row HW.out.2.1 id) (a1.row HW.out.2.2 id)))
  clear a1 HW
  have c2 := row_cell A1.out.2.1 (i := 0) rfl
  have hrt := Law9.Root_ok cap (HL.out.keep A1.out.1 (fun _ h => h.elim))
  rw [← HN.out] at hrt
  have HRT := Lib.hid hrt
  clear hrt
  go_wp2_with fail
  refine HRT.out.mono ?_; rintro e w2 ⟨a2, hb, c, rfl, hb1, hfi, _⟩
  have A2 := Lib.hid (And.intro (A1.out.1.trans a2 (fun _ h => h.elim)) (And.intro (a2.row A1.out.2.1 id) (a2.row A1.out.2.2 id)))
  clear a2 HRT c2
  obtain ⟨K3, hK3⟩ : ∃ K, K = brow hb := ⟨_, rfl⟩
  have HK3 := Lib.hid (And.intro (by rw [hK3, brow_size, hb1] : K3.size = 32) (by rw [hK3]; exact brow_one _ : ∀ v ∈ K3.toList, v.oneCell' = true))
  rw [← hK3]
  have HFI := Lib.hid hfi
  clear hb1 hK3 hfi A1
  go_upto_region 3 with (first
    | fail
    | ((with_reducible show wpList _ _ _ (⟨_, .alloc 72, _, _, _, _⟩ :: _) _ _); refine wpList_alloc_is rfl 72 rfl (.agg Z) HZ.out.2.1 ?_; dsimp only [Value.cells]; try simp only [World.size_alloc])
    | ((with_reducible show wpList _ _ _ (⟨_, .store 72 _ _, _, _, _, _⟩ :: _) _ _); refine wpList_store_part rfl 72 _ _ rfl w2.heap.size 0 K3 rfl rfl (heap_alloc_new _ _) (by rw [sizeH, HK3.out.1]) (by rw [HK3.out.1, HZ.out.2.2.1]; omega) HK3.out.2 K3 (by rw [splice_all _ _ (by rw [Array.length_toList, Array.length_toList, HK3.out.1, HZ.out.2.2.1])]) ?_))
  obtain ⟨w3, hw3⟩ : ∃ w3, w3 = (w2.alloc (.cells Z 72)).setRow w2.heap.size K3 := ⟨_, rfl⟩
  rw [← hw3]
  have a3 : Adds w2 w3 := by rw [hw3]; exact ((Ch.refl _ _).alloc _).setRow (.inr (Nat.le_refl _)) _
  have A3 := Lib.hid (And.intro (A2.out.1.trans a3 (fun _ h => h.elim)) (And.intro (a3.row A2.out.2.1 id) (a3.row A2.out.2.2 id)))
  clear hw3 a3 A2
  have c2 := row_cell A3.out.2.1 (i := 0) rfl
  have f4 := row_free A3.out.2.2 0
  have c4 := row_cell A3.out.2.2 (i := 0) rfl
  by_cases hgo : n ≤ 16 ∧ c = 0
  · obtain ⟨hn16, rfl⟩ := hgo
    have hfine := HFI.out.1 rfl
    have hf := filled_ok cap (HL.out.keep A3.out.1 (fun _ h => h.elim)) (by rw [← HN.out]; omega) hfine.2.1
    rw [← HN.out] at hf
    have HF := Lib.hid (And.intro hfine hn16)
    have HFO := Lib.hid hf
    have d16 : decide ((16 : Int) < (n : Int)) = false := decide_eq_false (by omega)
    clear hfine hf HFI hn16
    go_wp2_with fail
    refine HFO.out.mono ?_; rintro e w4 ⟨s, σ, root, rfl, h4⟩
    have hDb : Db σ root (l.map Pr.ent) := h4.db.perm (entsOf_perm HF.out.1.2.2)
    obtain ⟨T, hT⟩ : ∃ T, T = tree 256 (l.map Pr.ent) := ⟨_, rfl⟩
    have hrep := hDb.rep
    rw [← hT] at hrep
    have hperm : T.ents.Perm (l.map Pr.ent) := by rw [hT]; exact hDb.ents
    have hlv : T.leaves = n := by rw [← Tr.ents_length, hperm.length_eq, List.length_map, HN.out]
    obtain ⟨F, hF⟩ := h4.own.at
    have HG := Lib.hid (And.intro hDb.good (And.intro hrep (rootErr_hand hDb.hand)))
    have HA := Lib.hid hF
    have HT := Lib.hid (And.intro hlv (And.intro hperm (hrep.ents hDb.good.fit)))
    have A4 := Lib.hid (And.intro (A3.out.1.trans h4.own.world (fun _ h => h.elim)) (And.intro (h4.own.world.row A3.out.2.1 id) (h4.own.world.row A3.out.2.2 id)))
    clear hDb hT hrep hlv hF h4 HFO A3 hperm c2 f4 c4
    go_upto_region 9 with fail
    refine at_world (fun w5 hw5 => ?_)
    obtain ⟨B8, hB8⟩ : ∃ B, B = w4.heap.size := ⟨_, rfl⟩
    have r8 : ∃ ty, w5.heap[B8]? = some (.cells #[.pointer (some ⟨s, 0, none⟩)] ty (0, 0)) := by
      rw [hw5, hB8]
      exact ⟨_, row_alloc (row_alloc (heap_alloc_new _ _) _) _⟩
    have r9 : w5.heap[B8 + 1]? = some (.cells #[.int .i64 root] 3 (0, 0)) := by
      rw [hw5, hB8]
      refine row_alloc ?_ _
      have := heap_alloc_new (w4.alloc (.cells #[.pointer (some ⟨s, 0, none⟩)] 37)) (.cells #[.int .i64 root] 3)
      simpa using this
    have r11 : w5.heap[B8 + 1 + 1]? = some (.cells #[.int .i64 0] 3 (0, 0)) := by
      rw [hw5, hB8]
      have := heap_alloc_new ((w4.alloc (.cells #[.pointer (some ⟨s, 0, none⟩)] 37)).alloc (.cells #[.int .i64 root] 3)) (.cells #[.int .i64 0] 3)
      simpa using this
    have a5 : Adds w4 w5 := by rw [hw5]; exact (((Ch.refl _ _).alloc _).alloc _).alloc _
    have hs5 : w5.heap.size = B8 + 1 + 1 + 1 := by rw [hw5, hB8]; simp
    simp only [← hB8]
    have H5 := Lib.hid (And.intro a5 (And.intro r8 (And.intro r9 (And.intro r11 (And.intro hs5 hB8)))))
    clear a5 r8 r9 r11 hs5 hw5 hB8
    go_upto_region 10 with (first
      | fail
      | ((with_reducible show wpList _ _ _ (⟨_, .build 24 #[], _, _, _, _⟩ :: _) _ _); refine wpList_build_none rfl 24 rfl Z HZ.out.2.2.2.1 ?_)
      | ((with_reducible show wpList _ _ _ (⟨_, .alloc 24, _, _, _, _⟩ :: _) _ _); refine wpList_alloc_is rfl 24 rfl (.agg Z) HZ.out.1 ?_; dsimp only [Value.cells]; try simp only [World.size_alloc])
      | ((with_reducible show wpList _ _ _ (⟨_, .store 24 _ _, _, _, _, _⟩ :: _) _ _); refine wpList_store_part rfl 24 _ _ rfl w5.heap.size 0 Z rfl rfl (heap_alloc_new _ _) (by rw [sizeP, HZ.out.2.2.1]) (by omega) HZ.out.2.2.2.2.1 Z (by rw [splice_all _ _ rfl]) ?_))
    rw [H5.out.2.2.2.2.1]
    refine at_world (fun w6 hw6 => ?_)
    obtain ⟨B9, hB9⟩ : ∃ B, B = B8 + 1 := ⟨_, rfl⟩
    obtain ⟨B11, hB11⟩ : ∃ B, B = B9 + 1 := ⟨_, rfl⟩
    obtain ⟨B12, hB12⟩ : ∃ B, B = B11 + 1 := ⟨_, rfl⟩
    simp only [← hB9]
    simp only [← hB11]
    simp only [← hB12]
    have a6 : Adds w5 w6 := by rw [hw6]; exact ((Ch.refl _ _).alloc _).setRow (.inr (by rw [H5.out.2.2.2.2.1]; omega)) _
    have r12 : w6.heap[B12]? = some (.cells Z 24 (0, 0)) := by
      rw [hw6, hB12, hB11, hB9, ← H5.out.2.2.2.2.1]
      exact row_setRow_same (heap_alloc_new _ _) _
    have h46 : Adds w4 w6 := H5.out.1.trans a6 (fun _ h => h.elim)
    have hs6 : w6.heap.size = B12 + 1 := by rw [hw6]; simp [H5.out.2.2.2.2.1]; omega
    have hI6 : AlI w4 w6 B2 B8 B9 B11 B12 s root (.slice ao n cap) 0 (List.replicate 32 0) := ⟨h46, h46.row A4.out.2.1 id, H5.out.2.1.imp fun _ h => a6.row h id, a6.row (by rw [hB9]; exact H5.out.2.2.1) id, a6.row (by rw [hB11, hB9]; exact H5.out.2.2.2.1) id, by rw [← HZ.out.2.2.2.2.2]; exact r12⟩
    have HA6 := Lib.hid (HA.out.adds h46)
    have H6 := Lib.hid (And.intro hI6 (And.intro hs6 (And.intro hB9 (And.intro hB11 (And.intro hB12 H5.out.2.2.2.2.2)))))
    obtain ⟨_, hc8⟩ := hI6.r8
    have c8 := row_cell hc8 (i := 0) rfl
    have c9 := row_cell hI6.r9 (i := 0) rfl
    have hall := All_of (S := .pointer (some ⟨s, 0, none⟩)) (R := fun q w' => SeqIs w6.heap.size w' (T.from (List.replicate 32 0)) q ∧ Adds w6 w') (From_ok HA6.out HG.out.1 HG.out.2.1 HG.out.2.2 (List.replicate 32 0) rfl) ⟨_, rfl⟩
    have HALL := Lib.hid hall
    clear hw6 a6 r12 h46 hs6 hI6 hB9 hB11 hB12 hc8 hall
    go_wp2_with fail
    refine HALL.out.mono ?_; rintro e w7 ⟨q, rfl, hq, a7⟩
    obtain ⟨b0, v0, out, rfl, hbb, hrow, htold, hout, hvb, hxb⟩ := hq
    rw [from_all T (fun e he => (HT.out.2.2.1 e he).1)] at hout
    have holen : out.length = n ∧ out.length ≤ 16 := by
      have h1 := congrArg List.length hout
      rw [List.length_map, Tr.ents_length, HT.out.1] at h1
      have := HF.out.2
      omega
    have hvo : ∀ x ∈ out, x.val.length ≤ 1024 := fun x hx => by
      have : Pr.ent x ∈ T.ents := by rw [← hout]; exact List.mem_map_of_mem hx
      exact (HT.out.2.2.1 _ this).2
    have HSEQ := Lib.hid (overSeqG (G := fun k => k = B11 ∨ k = B12) 3 (by omega) b0 w6.heap.size (fun k hk => by have := H6.out.2; omega) v0 out w7 hrow (htold.base' (Nat.le_refl _)) (by omega) hvo)
    have HO := Lib.hid (And.intro holen hout)
    have H7 := Lib.hid (And.intro (H6.out.1.keep a7) a7.size)
    have hnil : ∀ (w : World), (Go.binOp BinOp.eql 44 (Value.func (Fn.func 94) #[] #[.pointer (some ⟨b0, 0, none⟩)]) Value.nilFunc).run Tryz.prog w = Result.ok (Value.bool false) w := fun w => by kernel_rfl
    clear hrow htold hout hvb hxb holen hvo hbb a7 c8 c9
    go_wp2_with fail
    clear hnil
    refine at_act (fun A0 hA0 => ?_)
    have HA0 := Lib.hid hA0
    refine (wpIn_wide (n := 4)).1 ?_
    refine wpIn_rangeY (α := Pr) rfl (by omega) (gf := 94) (by rw [hA0]; rfl) trivial (enters_of Tryz.func94 (by kernel_rfl) rfl) HSEQ.out belG_t (belG_b (Nat.le_refl _)) (Below.refl _ _) (fun _ => rfl)
      (fun pre W => AlI w4 W B2 B8 B9 B11 B12 s root (.slice ao n cap) pre.length (lastK pre) ∧ pre.map Pr.ent = T.ents.take pre.length) (fun _ _ _ => False)
      (fun st W W' row hs hg hr => ⟨hs.1.turn hg (fun k hk => by have := hr k hk; have := H7.out.2; have := H6.out.2; have := row_lt A4.out.2.1; have := HWB.out.2; have := A4.out.1.size; omega), hs.2⟩) (fun c => fun st W W' row hs hg hr => hs) ⟨H7.out.1, rfl⟩
      (fun pre x a W => ∃ p, a = { tmps := (((A0.tmps.setIfInBounds 49 (.agg (brow x.key))).setIfInBounds 50 x.vv).setIfInBounds 14 (.pointer (some ⟨p, 0, none⟩))).setIfInBounds 15 x.vv, defers := [] } ∧ (AlI w4 W B2 B8 B9 B11 B12 s root (.slice ao n cap) pre.length (lastK pre) ∧ pre.map Pr.ent = T.ents.take pre.length) ∧ Yv w7.heap.size out pre x W ∧ W.heap[p]? = some (.cells (brow x.key) 24 (0, 0)))
      (fun pre x a W l o o' h hl hW ho => by
        obtain ⟨p, h1, h2, h3, h4⟩ := h
        refine ⟨p, h1, ⟨h2.1.turn (grownBy_putObj' _ l o') (fun k hk => by cases hk; have := H7.out.2; have := H6.out.2; have := row_lt A4.out.2.1; have := A4.out.1.size; omega), h2.2⟩, h3.put hW ho, ?_⟩
        by_cases e : l = p
        · subst e
          rw [h4] at hW
          cases hW
          cases ho
        · exact (World.putObj_heap_other (Ne.symm e)).trans h4) ?assign ?body ?done ?stop
    case assign =>
      intro l0 pre x W hI hY hlt
      obtain ⟨K, hK⟩ : ∃ K, K = brow x.key := ⟨_, rfl⟩
      have hKs : K.size = 32 := by obtain ⟨y, _, _, h, _⟩ := hY; rw [hK, brow_size, h]
      have HK := Lib.hid (And.intro hKs (by rw [hK]; exact brow_one _ : ∀ v ∈ K.toList, v.oneCell' = true))
      have hfin : KeepsOthers W ((W.alloc (.cells Z 24)).setRow W.heap.size K) ∧ BelG w7.heap.size (fun k => k = B11 ∨ k = B12) W ((W.alloc (.cells Z 24)).setRow W.heap.size K) ∧ AlI w4 ((W.alloc (.cells Z 24)).setRow W.heap.size K) B2 B8 B9 B11 B12 s root (.slice ao n cap) pre.length (lastK pre) ∧ Yv w7.heap.size out pre x ((W.alloc (.cells Z 24)).setRow W.heap.size K) ∧ ((W.alloc (.cells Z 24)).setRow W.heap.size K).heap[W.heap.size]? = some (.cells K 24 (0, 0)) := by
        have a : Adds W ((W.alloc (.cells Z 24)).setRow W.heap.size K) := ((Ch.refl _ _).alloc _).setRow (.inr (Nat.le_refl _)) _
        exact ⟨keeps_of a (fun _ h => h.elim), a.mono (fun _ _ h => h.elim), hI.1.keep a, hY.keep a, row_setRow_same (heap_alloc_new _ _) _⟩
      have HF2 := Lib.hid (And.intro hfin hI.2)
      have HKK := Lib.hid hK
      dsimp only
      rw [← hK]
      clear hfin hI hY hK hKs
      rw [zip_two]
      rw [hA0]
      clear hA0
      simp only [List.setIfInBounds_toArray, List.set_cons_succ, List.set_cons_zero]
      gi_wp2_with (first
        | fail
        | ((with_reducible show wpListIn _ _ _ _ _ (⟨_, .alloc 24, _, _, _, _⟩ :: _) _ _); refine wpListIn_alloc_is rfl 24 rfl (.agg Z) HZ.out.1 ?_; dsimp only [Value.cells]; try simp only [World.size_alloc])
        | ((with_reducible show wpListIn _ _ _ _ _ (⟨_, .store 24 _ _, _, _, _, _⟩ :: _) _ _); go_must (refine wpListIn_store_part rfl 24 _ _ rfl W.heap.size 0 K rfl rfl (heap_alloc_new _ _) (by rw [sizeP, HK.out.1]) (by rw [HK.out.1, HZ.out.2.2.1]; omega) HK.out.2 K (by rw [splice_all _ _ (by rw [Array.length_toList, Array.length_toList, HK.out.1, HZ.out.2.2.1])]) ?_)))
      refine ⟨HF2.out.1.1, HF2.out.1.2.1, W.heap.size, ?_, ⟨HF2.out.1.2.2.1, HF2.out.2⟩, HF2.out.1.2.2.2.1, HF2.out.1.2.2.2.2⟩
      rfl
    case body =>
      rintro l0 pre x a W ⟨p, rfl, ⟨hI, hpre⟩, hY, hrow⟩ hlt
      obtain ⟨y, hy, hxe, hk32, hv1, hbr⟩ := hY
      obtain ⟨m, hm⟩ : ∃ m, m = pre.length := ⟨_, rfl⟩
      have hE : T.ents[m]? = some (x.key, x.val) := by
        rw [← HO.out.2, List.getElem?_map, hm, hy]
        exact congrArg some hxe.symm
      have hmn : m < n := by have := HO.out.1.1; omega
      rw [← hm] at hI hpre
      have hrk := rank_at HT.out.2.2.2.2 hE
      obtain ⟨K, hK⟩ : ∃ K, K = brow x.key := ⟨_, rfl⟩
      have HKK := Lib.hid (And.intro (by rw [hK, brow_size, hk32] : K.size = 32) (And.intro hK (by rw [hK]; exact brow_one _ : ∀ v ∈ K.toList, v.oneCell' = true)))
      rw [← hK] at hrow
      have hlast : ∀ i, m = i + 1 → (lastK pre).length = 32 ∧ Lib.compareBytes (lastK pre) x.key < 0 := fun i hi => by
        obtain ⟨z, hz⟩ : ∃ z, pre[i]? = some z := ⟨_, List.getElem?_eq_getElem (by omega)⟩
        have h1 : lastK pre = z.key := by
          unfold lastK
          rw [List.getLast?_eq_getElem?, ← hm, hi, Nat.add_sub_cancel, hz]
        have h2 : T.ents[i]? = some (z.key, z.val) := by
          have h3 : (pre.map Pr.ent)[i]? = some (z.key, z.val) := by rw [List.getElem?_map, hz]; rfl
          rw [hpre, List.getElem?_take_of_lt (by omega)] at h3
          exact h3
        rw [h1]
        refine ⟨(HT.out.2.2.1 _ (List.mem_of_getElem? h2)).1, ?_⟩
        rw [hi] at hE
        exact before_at HT.out.2.2.2.2 h2 hE
      have hlk : (lastK pre).length = 32 := by
        rcases Nat.eq_zero_or_pos m with h0 | h0
        · have : pre = [] := List.eq_nil_of_length_eq_zero (by omega)
          rw [this]
          rfl
        · exact (hlast (m - 1) (by omega)).1
      have hnew : (pre ++ [x]).map Pr.ent = T.ents.take (pre ++ [x]).length := by
        rw [List.length_append, List.length_singleton, ← hm, List.take_add_one, hE, List.map_append, hpre]
        rfl
      have hb := hbr.bytes
      obtain ⟨xo, xc, hxv, _, _⟩ := hb.form
      have hinl : (x.key, x.val) ∈ l.map Pr.ent := HT.out.2.1.mem_iff.1 (List.mem_of_getElem? hE)
      have HHAS := Lib.hid (fun W1 (a : Adds W W1) => has_ok cap (HL.out.keep ((A4.out.1.trans hI.adds (fun _ h => h.elim)).trans a (fun _ h => h.elim)) (fun _ h => h.elim)) HF.out.1.2.2 (by have := HF.out.2; have := HN.out; omega) hk32 (hb.keep a (fun _ _ h => h)) hinl)
      obtain ⟨LK, hLK⟩ : ∃ LK, LK = lastK pre := ⟨_, rfl⟩
      obtain ⟨KL, hKL⟩ : ∃ K, K = brow LK := ⟨_, rfl⟩
      have hKL1 : KL.size = 32 := by rw [hKL, brow_size, hLK]; exact hlk
      have hcm : ∀ i, m = i + 1 → ∀ w1, Calls Tryz.prog 28 #[.agg KL, .agg K] w1 fun e w' => e = .returned (.int .i64 (Lib.compareBytes LK x.key)) ∧ Adds w1 w' := fun i hi w1 => by
        rw [hKL, hK, hLK]
        exact cmp_adds _ _ (hlast i hi).1 hk32 w1
      have hcl : ∀ i, m = i + 1 → Lib.compareBytes LK x.key < 0 := fun i hi => by rw [hLK]; exact (hlast i hi).2
      rw [← hLK] at hI
      have HX := Lib.hid (And.intro hK (And.intro hb (And.intro hxv hrk)))
      have HE := Lib.hid (And.intro hE (And.intro hnew hmn))
      have HR := Lib.hid (And.intro hI (And.intro hrow (Ch.refl (fun _ => False) W)))
      have HM' := Lib.hid hm
      have HC := Lib.hid (And.intro hKL1 (And.intro hcm (And.intro hcl hKL)))
      have hm16 : m < 16 := by have := HF.out.2; omega
      rw [hA0]
      clear hA0 hy hxe hv1 hbr hE hrk hK hlast hlk hnew hb hinl hLK hKL hKL1 hcm hcl hpre hlt hmn hm hk32
      rw [hxv]
      simp only [List.setIfInBounds_toArray, List.set_cons_succ, List.set_cons_zero]
      have c11 := row_cell hI.r11 (i := 0) rfl
      have c2 := row_cell hI.r2 (i := 0) rfl
      clear hI hrow hxv
      have R12 : RowKit.Hid (W.heap[B12]? = some (.cells KL 24 (0, 0))) := Lib.hid (by rw [HC.out.2.2.2]; exact HR.out.1.r12)
      rcases Nat.eq_zero_or_pos m with h0 | h0
      · have hz : decide ((0 : Int) < (m : Int)) = false := decide_eq_false (by omega)
        have hz' : decide (0 < m) = false := decide_eq_false (by omega)
        have R1 := HR
        clear h0
        gi_wp2_with (first
          | fail
          | ((with_reducible show wpListIn _ _ _ _ _ (⟨_, .load 24 _, _, _, _, _⟩ :: _) _ _); refine wpListIn_gload_part (by first | rfl | (simp [Region.wanted]; done)) 24 _ rfl p 0 rfl HR.out.2.1 Tryz.underlying24 rfl sizeP (by rw [HKK.out.1]; omega) K (by have := HKK.out.1; simp [← this]) ?_))
        refine ⟨trivial, ?_⟩
        gi_wp2_with (first
          | fail
          | ((with_reducible show wpListIn _ _ _ _ _ (⟨_, .load 24 _, _, _, _, _⟩ :: _) _ _); refine wpListIn_gload_part (by first | rfl | (simp [Region.wanted]; done)) 24 _ rfl p 0 rfl HR.out.2.1 Tryz.underlying24 rfl sizeP (by rw [HKK.out.1]; omega) K (by have := HKK.out.1; simp [← this]) ?_))
        have hh := HHAS.out _ R1.out.2.2
        rw [← HN.out, ← HX.out.1, HX.out.2.2.1] at hh
        refine ⟨trivial, (callsIn_wide.2 hh).mono ?_⟩; rintro e W2 ⟨rfl, a2⟩
        have R2 := Lib.hid (And.intro (R1.out.1.keep a2) (And.intro (a2.row R1.out.2.1 id) (R1.out.2.2.trans a2 (fun _ h => h.elim))))
        clear hh a2 c2 c11
        have hk32 : x.key.length = 32 := (HT.out.2.2.1 _ (List.mem_of_getElem? HE.out.1)).1
        have hr2 := Rank_ok (HA.out.adds R2.out.1.adds) HG.out.1 HG.out.2.1 HG.out.2.2 x.key hk32
        rw [HX.out.2.2.2, ← HX.out.1] at hr2
        have HRK := Lib.hid hr2
        obtain ⟨ty8, h8⟩ := R2.out.1.r8
        have d8 := row_cell h8 (i := 0) rfl
        have d9 := row_cell R2.out.1.r9 (i := 0) rfl
        clear hr2 h8 hk32
        gi_wp2_with (first
          | fail
          | ((with_reducible show wpListIn _ _ _ _ _ (⟨_, .load 24 _, _, _, _, _⟩ :: _) _ _); refine wpListIn_load_part rfl 24 _ rfl p 0 rfl R2.out.2.1 Tryz.underlying24 rfl sizeP (by rw [HKK.out.1]; omega) K (by have := HKK.out.1; simp [← this]) ?_))
        refine ⟨trivial, (callsIn_wide.2 HRK.out).mono ?_⟩; rintro e W3 ⟨rfl, a3⟩
        have R3 := Lib.hid (And.intro (R2.out.1.keep a3) (And.intro (a3.row R2.out.2.1 id) (R2.out.2.2.trans a3 (fun _ h => h.elim))))
        have HNT := Lib.hid (Nth_ok (HA.out.adds R3.out.1.adds) HG.out.1 HG.out.2.1 HG.out.2.2 m _ HE.out.1)
        obtain ⟨ty9, h8⟩ := R3.out.1.r8
        have g8 := row_cell h8 (i := 0) rfl
        have g9 := row_cell R3.out.1.r9 (i := 0) rfl
        have g11 := row_cell R3.out.1.r11 (i := 0) rfl
        clear a3 h8 d8 d9 HRK
        gi_wp2_with fail
        refine ⟨trivial, (callsIn_wide.2 HNT.out).mono ?_⟩; rintro e W4 ⟨z, rfl, hze, hzk, hzb, hzl, a4⟩
        have R4 := Lib.hid (And.intro (R3.out.1.keep a4) (And.intro (a4.row R3.out.2.1 id) (R3.out.2.2.trans a4 (fun _ h => h.elim))))
        clear g8 g9 g11 HNT
        obtain ⟨hzk2, hzv2⟩ : z.key = x.key ∧ z.val = x.val := by simpa [Pr.ent] using hze
        obtain ⟨zo, zc, hzf, _, _⟩ := hzb.form
        obtain ⟨C, hC⟩ : ∃ C, C = z.cells := ⟨_, rfl⟩
        have hCs : C.size = 33 := by rw [hC]; exact Pr.size hzk
        have hC1 : ∀ v ∈ C.toList, v.oneCell' = true := by rw [hC]; exact Pr.one (w := W4) ⟨hzk, hzb, fun _ q hq => (hzl q hq).2⟩
        have hCk : C.extract 0 (0 + 32) = K := by rw [hC, HX.out.1, ← hzk2]; exact Pr.at_key hzk
        have hCv : C[32]? = some (.slice zo z.val.length zc) := by rw [hC, ← hzf]; exact Pr.at_val hzk
        rw [← hC]
        obtain ⟨ZP, hZP⟩ : ∃ Z, Z = zPair := ⟨_, rfl⟩
        obtain ⟨hp0, hp1, _, _⟩ := pair_z
        rw [← hZP] at hp0 hp1
        have a5 : Adds W4 ((W4.alloc (.cells ZP 81)).setRow W4.heap.size C) := ((Ch.refl _ _).alloc _).setRow (.inr (Nat.le_refl _)) _
        have R5 := Lib.hid (And.intro (R4.out.1.keep a5) (And.intro (a5.row R4.out.2.1 id) (R4.out.2.2.trans a5 (fun _ h => h.elim))))
        have rP : ((W4.alloc (.cells ZP 81)).setRow W4.heap.size C).heap[W4.heap.size]? = some (.cells C 81 (0, 0)) := row_setRow_same (heap_alloc_new _ _) _
        have q11 := row_cell R5.out.1.r11 (i := 0) rfl
        have qv := row_cell rP hCv
        have hneq := neq_keys 24 Tryz.underlying24 x.key x.key (by rw [← hzk2]; exact hzk) (by rw [← hzk2]; exact hzk)
        rw [← HX.out.1] at hneq
        simp only [decide_true, Bool.not_true] at hneq
        have hsb := SameBytes_ok (hzb.keep a5 (fun _ _ h => h)) (HX.out.2.1.keep R5.out.2.2 (fun _ _ h => h))
        rw [hzf, HX.out.2.2.1, decide_eq_true (show z.val = x.val from hzv2)] at hsb
        have r12e : ((W4.alloc (.cells ZP 81)).setRow W4.heap.size C).heap[B12]? = some (.cells KL 24 (0, 0)) := by rw [HC.out.2.2.2]; exact R5.out.1.r12
        have hne : B12 ≠ B11 := by have := H6.out.2; omega
        have r11e : (((W4.alloc (.cells ZP 81)).setRow W4.heap.size C).setRow B12 K).heap[B11]? = some (.cells #[.int .i64 (m : Nat)] 3 (0, 0)) := row_setRow R5.out.1.r11 hne.symm _
        have t11 := row_cell r11e (i := 0) rfl
        have u11 := row_free r11e 0
        have hwm : wrap64 ((m : Int) + 1) = (m : Int) + 1 := by unfold wrap64; omega
        have HSB := Lib.hid hsb
        have HP := Lib.hid (And.intro rP (And.intro hCs (And.intro hC1 (And.intro hCk (And.intro hp0 (And.intro hp1 (And.intro r12e r11e)))))))
        clear hze hzk hzb hzl hzk2 hzv2 hzf hC hCs hC1 hCk hCv hZP hp0 hp1 a5 rP hsb r12e r11e a4
        gi_wp2_with (first
          | fail
          | ((with_reducible show wpListIn _ _ _ _ _ (⟨_, .alloc 81, _, _, _, _⟩ :: _) _ _); refine wpListIn_alloc_is rfl 81 rfl (.agg ZP) HP.out.2.2.2.2.1 ?_; dsimp only [Value.cells]; try simp only [World.size_alloc])
          | ((with_reducible show wpListIn _ _ _ _ _ (⟨_, .store 81 _ _, _, _, _, _⟩ :: _) _ _); refine wpListIn_store_part rfl 81 _ _ rfl W4.heap.size 0 C rfl rfl (heap_alloc_new _ _) (by rw [sizePr, HP.out.2.1]) (by rw [HP.out.2.1, HP.out.2.2.2.2.2.1]; omega) HP.out.2.2.1 C (by rw [splice_all _ _ (by rw [Array.length_toList, Array.length_toList, HP.out.2.1, HP.out.2.2.2.2.2.1])]) ?_)
          | ((with_reducible show wpListIn _ _ _ _ _ (⟨_, .load 24 _, _, _, _, _⟩ :: _) _ _); refine wpListIn_gload_part (by first | rfl | (simp [Region.wanted]; done)) 24 _ rfl W4.heap.size 0 rfl HP.out.1 Tryz.underlying24 rfl sizeP (by rw [HP.out.2.1]; omega) K HP.out.2.2.2.1 ?_)
          | ((with_reducible show wpListIn _ _ _ _ _ (⟨_, .load 24 _, _, _, _, _⟩ :: _) _ _); refine wpListIn_gload_part (by first | rfl | (simp [Region.wanted]; done)) 24 _ rfl p 0 rfl R5.out.2.1 Tryz.underlying24 rfl sizeP (by rw [HKK.out.1]; omega) K (by have := HKK.out.1; simp [← this]) ?_))
        refine ⟨trivial, (callsIn_wide.2 HSB.out).mono ?_⟩; rintro e W5 ⟨rfl, rfl⟩
        gi_wp2_with (first
          | fail
          | ((with_reducible show wpListIn _ _ _ _ _ (⟨_, .load 24 _, _, _, _, _⟩ :: _) _ _); refine wpListIn_load_part rfl 24 _ rfl p 0 rfl R5.out.2.1 Tryz.underlying24 rfl sizeP (by rw [HKK.out.1]; omega) K (by have := HKK.out.1; simp [← this]) ?_)
          | ((with_reducible show wpListIn _ _ _ _ _ (⟨_, .store 24 _ _, _, _, _, _⟩ :: _) _ _); refine wpListIn_store_part rfl 24 _ _ rfl B12 0 K rfl rfl HP.out.2.2.2.2.2.2.1 (by rw [sizeP, HKK.out.1]) (by rw [HKK.out.1, HC.out.1]; omega) HKK.out.2.2 K (by rw [splice_all _ _ (by rw [Array.length_toList, Array.length_toList, HKK.out.1, HC.out.1])]) ?_))
        have hch : Ch (fun k => k = B11 ∨ k = B12) ((W4.alloc (.cells ZP 81)).setRow W4.heap.size C) ((((W4.alloc (.cells ZP 81)).setRow W4.heap.size C).setRow B12 K).setCell ⟨B11, 0, none⟩ (.int .i64 ((m : Int) + 1))) := (((Ch.refl _ _).setRow (.inl (.inr rfl)) _).setCell (p := ⟨B11, 0, none⟩) (.inl (.inl rfl)) _)
        have hW7 : Ch (fun k => k = B11 ∨ k = B12) W ((((W4.alloc (.cells ZP 81)).setRow W4.heap.size C).setRow B12 K).setCell ⟨B11, 0, none⟩ (.int .i64 ((m : Int) + 1))) := Ch.trans_same (R5.out.2.2.mono (fun _ _ h => h.elim)) hch
        have hb2 := row_lt A4.out.2.1
        have h6 := H6.out.2
        have h11 : ∃ cur ty fr, W.heap[B11]? = some (.cells cur ty fr) := ⟨_, _, _, HR.out.1.r11⟩
        have h12 : ∃ cur ty fr, W.heap[B12]? = some (.cells cur ty fr) := ⟨_, _, _, R12.out⟩
        refine ⟨keeps_of hW7 (fun k hk => hk.elim (fun e => e ▸ h11) (fun e => e ▸ h12)), hW7.mono (fun _ _ h => .inr h), ⟨?_, ?_, ?_, ?_, ?_, ?_⟩, HE.out.2.1⟩
        · exact R5.out.1.adds.trans hch (fun k hk => .inr (by omega))
        · exact hch.row R5.out.1.r2 (fun h => by omega)
        · exact R5.out.1.r8.imp fun _ h => hch.row h (fun h => by omega)
        · exact hch.row R5.out.1.r9 (fun h => by omega)
        · rw [List.length_append, List.length_singleton, ← HM'.out, show (((m + 1 : Nat)) : Int) = (m : Int) + 1 by omega]
          exact row_set_same HP.out.2.2.2.2.2.2.2 0 _
        · rw [lastK_next, ← HX.out.1]
          exact row_set (row_setRow_same HP.out.2.2.2.2.2.2.1 _) hne _
      · have hz : decide ((0 : Int) < (m : Int)) = true := decide_eq_true (by omega)
        have hz' : decide (0 < m) = true := decide_eq_true h0
        obtain ⟨i, hi⟩ : ∃ i, m = i + 1 := ⟨m - 1, by omega⟩
        have HCM := Lib.hid (HC.out.2.1 i hi)
        have hc0 := HC.out.2.2.1 i hi
        have hge : decide ((0 : Int) ≤ Lib.compareBytes LK x.key) = false := decide_eq_false (by omega)
        clear h0 hc0 hi
        gi_wp2_with (first
          | fail
          | ((with_reducible show wpListIn _ _ _ _ _ (⟨_, .load 24 _, _, _, _, _⟩ :: _) _ _); refine wpListIn_gload_part (by first | rfl | (simp [Region.wanted]; done)) 24 _ rfl B12 0 rfl R12.out Tryz.underlying24 rfl sizeP (by rw [HC.out.1]; omega) KL (by have := HC.out.1; simp [← this]) ?_)
          | ((with_reducible show wpListIn _ _ _ _ _ (⟨_, .load 24 _, _, _, _, _⟩ :: _) _ _); refine wpListIn_gload_part (by first | rfl | (simp [Region.wanted]; done)) 24 _ rfl p 0 rfl HR.out.2.1 Tryz.underlying24 rfl sizeP (by rw [HKK.out.1]; omega) K (by have := HKK.out.1; simp [← this]) ?_))
        refine ⟨trivial, (callsIn_wide.2 (HCM.out _)).mono ?_⟩; rintro e Wc ⟨rfl, ac⟩
        have R1 := Lib.hid (And.intro (HR.out.1.keep ac) (And.intro (ac.row HR.out.2.1 id) (HR.out.2.2.trans ac (fun _ h => h.elim))))
        have c2b := row_cell R1.out.1.r2 (i := 0) rfl
        clear ac
        gi_wp2_with (first
          | fail
          | ((with_reducible show wpListIn _ _ _ _ _ (⟨_, .load 24 _, _, _, _, _⟩ :: _) _ _); refine wpListIn_gload_part (by first | rfl | (simp [Region.wanted]; done)) 24 _ rfl p 0 rfl R1.out.2.1 Tryz.underlying24 rfl sizeP (by rw [HKK.out.1]; omega) K (by have := HKK.out.1; simp [← this]) ?_))
        have hh := HHAS.out _ R1.out.2.2
        rw [← HN.out, ← HX.out.1, HX.out.2.2.1] at hh
        refine ⟨trivial, (callsIn_wide.2 hh).mono ?_⟩; rintro e W2 ⟨rfl, a2⟩
        have R2 := Lib.hid (And.intro (R1.out.1.keep a2) (And.intro (a2.row R1.out.2.1 id) (R1.out.2.2.trans a2 (fun _ h => h.elim))))
        clear hh a2 c2 c11 c2b HCM
        have hk32 : x.key.length = 32 := (HT.out.2.2.1 _ (List.mem_of_getElem? HE.out.1)).1
        have hr2 := Rank_ok (HA.out.adds R2.out.1.adds) HG.out.1 HG.out.2.1 HG.out.2.2 x.key hk32
        rw [HX.out.2.2.2, ← HX.out.1] at hr2
        have HRK := Lib.hid hr2
        obtain ⟨ty8, h8⟩ := R2.out.1.r8
        have d8 := row_cell h8 (i := 0) rfl
        have d9 := row_cell R2.out.1.r9 (i := 0) rfl
        clear hr2 h8 hk32
        gi_wp2_with (first
          | fail
          | ((with_reducible show wpListIn _ _ _ _ _ (⟨_, .load 24 _, _, _, _, _⟩ :: _) _ _); refine wpListIn_load_part rfl 24 _ rfl p 0 rfl R2.out.2.1 Tryz.underlying24 rfl sizeP (by rw [HKK.out.1]; omega) K (by have := HKK.out.1; simp [← this]) ?_))
        refine ⟨trivial, (callsIn_wide.2 HRK.out).mono ?_⟩; rintro e W3 ⟨rfl, a3⟩
        have R3 := Lib.hid (And.intro (R2.out.1.keep a3) (And.intro (a3.row R2.out.2.1 id) (R2.out.2.2.trans a3 (fun _ h => h.elim))))
        have HNT := Lib.hid (Nth_ok (HA.out.adds R3.out.1.adds) HG.out.1 HG.out.2.1 HG.out.2.2 m _ HE.out.1)
        obtain ⟨ty9, h8⟩ := R3.out.1.r8
        have g8 := row_cell h8 (i := 0) rfl
        have g9 := row_cell R3.out.1.r9 (i := 0) rfl
        have g11 := row_cell R3.out.1.r11 (i := 0) rfl
        clear a3 h8 d8 d9 HRK
        gi_wp2_with fail
        refine ⟨trivial, (callsIn_wide.2 HNT.out).mono ?_⟩; rintro e W4 ⟨z, rfl, hze, hzk, hzb, hzl, a4⟩
        have R4 := Lib.hid (And.intro (R3.out.1.keep a4) (And.intro (a4.row R3.out.2.1 id) (R3.out.2.2.trans a4 (fun _ h => h.elim))))
        clear g8 g9 g11 HNT
        obtain ⟨hzk2, hzv2⟩ : z.key = x.key ∧ z.val = x.val := by simpa [Pr.ent] using hze
        obtain ⟨zo, zc, hzf, _, _⟩ := hzb.form
        obtain ⟨C, hC⟩ : ∃ C, C = z.cells := ⟨_, rfl⟩
        have hCs : C.size = 33 := by rw [hC]; exact Pr.size hzk
        have hC1 : ∀ v ∈ C.toList, v.oneCell' = true := by rw [hC]; exact Pr.one (w := W4) ⟨hzk, hzb, fun _ q hq => (hzl q hq).2⟩
        have hCk : C.extract 0 (0 + 32) = K := by rw [hC, HX.out.1, ← hzk2]; exact Pr.at_key hzk
        have hCv : C[32]? = some (.slice zo z.val.length zc) := by rw [hC, ← hzf]; exact Pr.at_val hzk
        rw [← hC]
        obtain ⟨ZP, hZP⟩ : ∃ Z, Z = zPair := ⟨_, rfl⟩
        obtain ⟨hp0, hp1, _, _⟩ := pair_z
        rw [← hZP] at hp0 hp1
        have a5 : Adds W4 ((W4.alloc (.cells ZP 81)).setRow W4.heap.size C) := ((Ch.refl _ _).alloc _).setRow (.inr (Nat.le_refl _)) _
        have R5 := Lib.hid (And.intro (R4.out.1.keep a5) (And.intro (a5.row R4.out.2.1 id) (R4.out.2.2.trans a5 (fun _ h => h.elim))))
        have rP : ((W4.alloc (.cells ZP 81)).setRow W4.heap.size C).heap[W4.heap.size]? = some (.cells C 81 (0, 0)) := row_setRow_same (heap_alloc_new _ _) _
        have q11 := row_cell R5.out.1.r11 (i := 0) rfl
        have qv := row_cell rP hCv
        have hneq := neq_keys 24 Tryz.underlying24 x.key x.key (by rw [← hzk2]; exact hzk) (by rw [← hzk2]; exact hzk)
        rw [← HX.out.1] at hneq
        simp only [decide_true, Bool.not_true] at hneq
        have hsb := SameBytes_ok (hzb.keep a5 (fun _ _ h => h)) (HX.out.2.1.keep R5.out.2.2 (fun _ _ h => h))
        rw [hzf, HX.out.2.2.1, decide_eq_true (show z.val = x.val from hzv2)] at hsb
        have r12e : ((W4.alloc (.cells ZP 81)).setRow W4.heap.size C).heap[B12]? = some (.cells KL 24 (0, 0)) := by rw [HC.out.2.2.2]; exact R5.out.1.r12
        have hne : B12 ≠ B11 := by have := H6.out.2; omega
        have r11e : (((W4.alloc (.cells ZP 81)).setRow W4.heap.size C).setRow B12 K).heap[B11]? = some (.cells #[.int .i64 (m : Nat)] 3 (0, 0)) := row_setRow R5.out.1.r11 hne.symm _
        have t11 := row_cell r11e (i := 0) rfl
        have u11 := row_free r11e 0
        have hwm : wrap64 ((m : Int) + 1) = (m : Int) + 1 := by unfold wrap64; omega
        have HSB := Lib.hid hsb
        have HP := Lib.hid (And.intro rP (And.intro hCs (And.intro hC1 (And.intro hCk (And.intro hp0 (And.intro hp1 (And.intro r12e r11e)))))))
        clear hze hzk hzb hzl hzk2 hzv2 hzf hC hCs hC1 hCk hCv hZP hp0 hp1 a5 rP hsb r12e r11e a4
        gi_wp2_with (first
          | fail
          | ((with_reducible show wpListIn _ _ _ _ _ (⟨_, .alloc 81, _, _, _, _⟩ :: _) _ _); refine wpListIn_alloc_is rfl 81 rfl (.agg ZP) HP.out.2.2.2.2.1 ?_; dsimp only [Value.cells]; try simp only [World.size_alloc])
          | ((with_reducible show wpListIn _ _ _ _ _ (⟨_, .store 81 _ _, _, _, _, _⟩ :: _) _ _); refine wpListIn_store_part rfl 81 _ _ rfl W4.heap.size 0 C rfl rfl (heap_alloc_new _ _) (by rw [sizePr, HP.out.2.1]) (by rw [HP.out.2.1, HP.out.2.2.2.2.2.1]; omega) HP.out.2.2.1 C (by rw [splice_all _ _ (by rw [Array.length_toList, Array.length_toList, HP.out.2.1, HP.out.2.2.2.2.2.1])]) ?_)
          | ((with_reducible show wpListIn _ _ _ _ _ (⟨_, .load 24 _, _, _, _, _⟩ :: _) _ _); refine wpListIn_gload_part (by first | rfl | (simp [Region.wanted]; done)) 24 _ rfl W4.heap.size 0 rfl HP.out.1 Tryz.underlying24 rfl sizeP (by rw [HP.out.2.1]; omega) K HP.out.2.2.2.1 ?_)
          | ((with_reducible show wpListIn _ _ _ _ _ (⟨_, .load 24 _, _, _, _, _⟩ :: _) _ _); refine wpListIn_gload_part (by first | rfl | (simp [Region.wanted]; done)) 24 _ rfl p 0 rfl R5.out.2.1 Tryz.underlying24 rfl sizeP (by rw [HKK.out.1]; omega) K (by have := HKK.out.1; simp [← this]) ?_))
        refine ⟨trivial, (callsIn_wide.2 HSB.out).mono ?_⟩; rintro e W5 ⟨rfl, rfl⟩
        gi_wp2_with (first
          | fail
          | ((with_reducible show wpListIn _ _ _ _ _ (⟨_, .load 24 _, _, _, _, _⟩ :: _) _ _); refine wpListIn_load_part rfl 24 _ rfl p 0 rfl R5.out.2.1 Tryz.underlying24 rfl sizeP (by rw [HKK.out.1]; omega) K (by have := HKK.out.1; simp [← this]) ?_)
          | ((with_reducible show wpListIn _ _ _ _ _ (⟨_, .store 24 _ _, _, _, _, _⟩ :: _) _ _); refine wpListIn_store_part rfl 24 _ _ rfl B12 0 K rfl rfl HP.out.2.2.2.2.2.2.1 (by rw [sizeP, HKK.out.1]) (by rw [HKK.out.1, HC.out.1]; omega) HKK.out.2.2 K (by rw [splice_all _ _ (by rw [Array.length_toList, Array.length_toList, HKK.out.1, HC.out.1])]) ?_))
        have hch : Ch (fun k => k = B11 ∨ k = B12) ((W4.alloc (.cells ZP 81)).setRow W4.heap.size C) ((((W4.alloc (.cells ZP 81)).setRow W4.heap.size C).setRow B12 K).setCell ⟨B11, 0, none⟩ (.int .i64 ((m : Int) + 1))) := (((Ch.refl _ _).setRow (.inl (.inr rfl)) _).setCell (p := ⟨B11, 0, none⟩) (.inl (.inl rfl)) _)
        have hW7 : Ch (fun k => k = B11 ∨ k = B12) W ((((W4.alloc (.cells ZP 81)).setRow W4.heap.size C).setRow B12 K).setCell ⟨B11, 0, none⟩ (.int .i64 ((m : Int) + 1))) := Ch.trans_same (R5.out.2.2.mono (fun _ _ h => h.elim)) hch
        have hb2 := row_lt A4.out.2.1
        have h6 := H6.out.2
        have h11 : ∃ cur ty fr, W.heap[B11]? = some (.cells cur ty fr) := ⟨_, _, _, HR.out.1.r11⟩
        have h12 : ∃ cur ty fr, W.heap[B12]? = some (.cells cur ty fr) := ⟨_, _, _, R12.out⟩
        refine ⟨keeps_of hW7 (fun k hk => hk.elim (fun e => e ▸ h11) (fun e => e ▸ h12)), hW7.mono (fun _ _ h => .inr h), ⟨?_, ?_, ?_, ?_, ?_, ?_⟩, HE.out.2.1⟩
        · exact R5.out.1.adds.trans hch (fun k hk => .inr (by omega))
        · exact hch.row R5.out.1.r2 (fun h => by omega)
        · exact R5.out.1.r8.imp fun _ h => hch.row h (fun h => by omega)
        · exact hch.row R5.out.1.r9 (fun h => by omega)
        · rw [List.length_append, List.length_singleton, ← HM'.out, show (((m + 1 : Nat)) : Int) = (m : Int) + 1 by omega]
          exact row_set_same HP.out.2.2.2.2.2.2.2 0 _
        · rw [lastK_next, ← HX.out.1]
          exact row_set (row_setRow_same HP.out.2.2.2.2.2.2.1 _) hne _
    case done =>
      rintro D ys W hD hys ⟨hI, hpre⟩ hK
      have hyl : ys.length = n := by have := congrArg List.length hys; rw [List.length_map, List.length_map] at this; have := HO.out.1.1; omega
      rw [hyl] at hI
      have r4 : W.heap[B4]? = some (.cells #[.bool false] 4 (0, 0)) := hI.adds.row A4.out.2.2 id
      obtain ⟨pk, hpk⟩ : ∃ m : Nat, (m : Int) = 1 + pick most 5 := ⟨(1 + pick most 5).toNat, by have := pick_in most (show 0 < 5 by decide); omega⟩
      have hpk2 : 1 ≤ pk ∧ pk ≤ 256 := by have := pick_in most (show 0 < 5 by decide); omega
      have hwp : wrap64 (1 + pick most 5) = (pk : Int) := by rw [← hpk]; unfold wrap64; omega
      have hwq : IntKind.i64.wrap (1 + pick most 5) = (pk : Int) := by rw [IntWalk.i64_left]; exact hwp
      have HP := Lib.hid (Pick_ok most HM.out 5 (by decide) (by decide))
      have HQ := Lib.hid (fun W1 (a : Adds W W1) => pieces_ok (HA.out.adds (hI.adds.trans a (fun _ h => h.elim))) HG.out.1 HG.out.2.1 HG.out.2.2 ao n cap HT.out.1 HF.out.2 pk hpk2)
      have HI := Lib.hid (And.intro hI (And.intro r4 (And.intro hK hD)))
      rw [hA0]
      clear hA0 hI hK hD hys hyl hpk hpk2 r4 hpre
      go_wp2
      refine wp_region_plan (fun w0 => AlI w4 w0 B2 B8 B9 B11 B12 s root (.slice ao n cap) n (lastK ys) ∧ w0.heap[B4]? = some (.cells #[.bool false] 4 (0, 0)) ∧ w0.heap[D]? = some (.deferred (some [])) ∧ Adds W w0) 16 [(0, false), (1, false), (2, false), (3, false), (4, false), (5, false), (6, false), (7, false), (8, false), (9, false), (10, false), (11, false), (12, true), (13, false), (14, true), (15, false)] (by kernel_rfl) (by kernel_rfl) ?_ ?_
      · exact ⟨HI.out.1.keep (Ch.refl _ _).drew, row_drew HI.out.2.1, row_drew HI.out.2.2.1, (Ch.refl _ _).drew⟩
      iterate 2
        refine plan_look rfl rfl (fun w0 hS => (by clear hS; go_simp; try rfl)) ?_
        simp only [Act.put, List.setIfInBounds_toArray, List.set_cons_succ, List.set_cons_zero]
      refine plan_look (v := .int .i64 (n : Nat)) rfl rfl (fun w0 hS => (by have e0 := row_cell hS.1.r11 (i := 0) rfl; clear hS; go_simp; try rfl)) ?_
      simp only [Act.put, List.setIfInBounds_toArray, List.set_cons_succ, List.set_cons_zero]
      refine plan_look (v := .slice ao n cap) rfl rfl (fun w0 hS => (by have e0 := row_cell hS.1.r2 (i := 0) rfl; clear hS; go_simp; try rfl)) ?_
      simp only [Act.put, List.setIfInBounds_toArray, List.set_cons_succ, List.set_cons_zero]
      iterate 1
        refine plan_look rfl rfl (fun w0 hS => (by clear hS; go_simp; try rfl)) ?_
        simp only [Act.put, List.setIfInBounds_toArray, List.set_cons_succ, List.set_cons_zero]
      refine plan_look (v := .bool true) rfl rfl (fun w0 hS => (by clear hS; go_simp; try rfl)) ?_
      simp only [Act.put, List.setIfInBounds_toArray, List.set_cons_succ, List.set_cons_zero]
      iterate 2
        refine plan_look rfl rfl (fun w0 hS => (by clear hS; go_simp; try rfl)) ?_
        simp only [Act.put, List.setIfInBounds_toArray, List.set_cons_succ, List.set_cons_zero]
      refine plan_look (v := .pointer (some ⟨s, 0, none⟩)) rfl rfl (fun w0 hS => (by obtain ⟨t8, h8⟩ := hS.1.r8; have e0 := row_cell h8 (i := 0) rfl; clear h8; clear hS; go_simp; try rfl)) ?_
      simp only [Act.put, List.setIfInBounds_toArray, List.set_cons_succ, List.set_cons_zero]
      refine plan_look (v := .int .i64 root) rfl rfl (fun w0 hS => (by have e0 := row_cell hS.1.r9 (i := 0) rfl; clear hS; go_simp; try rfl)) ?_
      simp only [Act.put, List.setIfInBounds_toArray, List.set_cons_succ, List.set_cons_zero]
      refine plan_look (v := .slice ao n cap) rfl rfl (fun w0 hS => (by have e0 := row_cell hS.1.r2 (i := 0) rfl; clear hS; go_simp; try rfl)) ?_
      simp only [Act.put, List.setIfInBounds_toArray, List.set_cons_succ, List.set_cons_zero]
      iterate 1
        refine plan_look rfl rfl (fun w0 hS => (by clear hS; go_simp; try rfl)) ?_
        simp only [Act.put, List.setIfInBounds_toArray, List.set_cons_succ, List.set_cons_zero]
      refine plan_do rfl ?_
      go_wp2_with fail
      refine (HP.out _).mono ?_; rintro e W2 ⟨rfl, rfl⟩
      have HS2 : RowKit.Hid (AlI w4 W.drew B2 B8 B9 B11 B12 s root (.slice ao n cap) n (lastK ys) ∧ W.drew.heap[B4]? = some (.cells #[.bool false] 4 (0, 0)) ∧ W.drew.heap[D]? = some (.deferred (some [])) ∧ Adds W W.drew) := Lib.hid ⟨HI.out.1.keep (Ch.refl _ _).drew, row_drew HI.out.2.1, row_drew HI.out.2.2.1, (Ch.refl _ _).drew⟩
      dsimp only
      go_step
      refine wpList_nil ?_
      change _ ∧ _
      refine ⟨HS2.out, ?_⟩
      refine plan_look (v := .int .i64 (pk : Int)) rfl rfl (fun w0 hS => (by clear hS; go_simp; try exact hwq)) ?_
      simp only [Act.put, List.setIfInBounds_toArray, List.set_cons_succ, List.set_cons_zero]
      refine plan_do rfl ?_
      go_wp2_with fail
      refine (HQ.out _ HS2.out.2.2.2).mono ?_; rintro e W3 ⟨rfl, a3⟩
      have HS3 := Lib.hid (And.intro (HS2.out.1.keep a3) (And.intro (a3.row HS2.out.2.1 id) (And.intro (a3.row HS2.out.2.2.1 id) (HS2.out.2.2.2.trans a3 (fun _ h => h.elim)))))
      clear a3
      dsimp only
      go_step
      refine wpList_nil ?_
      change _ ∧ _
      refine ⟨HS3.out, ?_⟩
      refine plan_look (v := .bool true) rfl rfl (fun w0 hS => (by clear hS; go_simp; try rfl)) ?_
      simp only [Act.put, List.setIfInBounds_toArray, List.set_cons_succ, List.set_cons_zero]
      have f4 := row_free HS3.out.2.1 0
      have k4 := row_cell HS3.out.2.1 (i := 0) rfl
      refine plan_end ?_; simp only [List.drop_succ_cons, List.drop_zero]
      go_wp2
      refine NoPanic.normal ?_
      go_wp2
      have hD4 : B4 < D := by have := HI.out.2.2.2; have := H7.out.2; have := H6.out.2; have := row_lt A4.out.2.2; omega
      have hB4 : w.heap.size ≤ B4 := by have := HWB.out.2; omega
      have hK' : (W3.setCell ⟨B4, 0, none⟩ (.bool true)).heap[D]? = some (.deferred (some [])) := (heap_setCell_other W3 ⟨B4, 0, none⟩ D (.bool true) (by simp; omega)).trans HS3.out.2.2.1
      have hc0 : (W3.setCell ⟨B4, 0, none⟩ (.bool true)).cell? ⟨B4, 0, none⟩ = some (.bool true) := row_cell (row_set_same HS3.out.2.1 0 (.bool true)) rfl
      have hc5 := cell_kept hc0 (grownBy_putObj' _ D (.deferred none)) (fun r e => by cases e; exact ⟨_, hK', rfl⟩)
      refine ⟨by simp, .inl ⟨_, _, rfl, run_takeDeferred hK', ?_⟩⟩
      refine ⟨.bool true, ?_, rfl, ((A4.out.1.trans HS3.out.1.adds (fun _ h => h.elim)).setCell (p := ⟨B4, 0, none⟩) (.inr hB4) _).grown (grownBy_putObj' _ D (.deferred none)) (fun k hk => .inr (by cases hk; omega))⟩
      simp [results, Tryz.f5, go_sem, hc5]
    case stop =>
      rintro D c pre W hD hpre h hK
      exact h.elim
  · have HGO := Lib.hid hgo
    clear hgo
    by_cases h16 : n ≤ 16
    · have d16 : decide ((16 : Int) < (n : Int)) = false := decide_eq_false (by omega)
      have hc : ¬ c = 0 := fun e => HGO.out ⟨h16, e⟩
      clear h16
      go_wp2_with fail
      have h5 : (w3.setCell ⟨B4, 0, none⟩ (.bool true)).cell? ⟨B4, 0, none⟩ = some (.bool true) := row_cell (row_set_same A3.out.2.2 0 (.bool true)) rfl
      exact ⟨.bool true, by simp [results, Tryz.f5, go_sem, h5], rfl, A3.out.1.setCell (p := ⟨B4, 0, none⟩) (.inr (by show w.heap.size ≤ B4; have := HWB.out.2; omega)) _⟩
    · have d16 : decide ((16 : Int) < (n : Int)) = true := decide_eq_true (by omega)
      clear h16
      go_wp2_with fail
      have h5 : (w3.setCell ⟨B4, 0, none⟩ (.bool true)).cell? ⟨B4, 0, none⟩ = some (.bool true) := row_cell (row_set_same A3.out.2.2 0 (.bool true)) rfl
      exact ⟨.bool true, by simp [results, Tryz.f5, go_sem, h5], rfl, A3.out.1.setCell (p := ⟨B4, 0, none⟩) (.inr (by show w.heap.size ≤ B4; have := HWB.out.2; omega)) _⟩
end Go.Proofs.YtfllneenonhonaaGreat.Law13
