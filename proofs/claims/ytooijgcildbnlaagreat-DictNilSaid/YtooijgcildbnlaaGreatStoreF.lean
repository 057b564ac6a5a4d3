/- The contracts of store.Store, part seven: Leaf. -/
import Derived.Test.YtooijgcildbnlaaGreatStoreB1
namespace Go.Proofs.YtooijgcildbnlaaGreat
open Go Go.RowKit
set_option linter.unusedVariables false
section
variable {P : Program} {Q : Exit → Act → World → Prop} {S : World → Prop}
/-- A struct is built of its parts. -/
theorem plan_build {l : List Oper} {n i : Nat} {r : List (Nat × Bool)} {a : Act} {w : World} {o : Oper} (ho : l[i]? = some o) (hgd : o.guard = none) (t : TypeId) (parts : Array (Nat × Operand)) (hop : o.op = .build t parts)
    (vals : List (Nat × Value)) (hv : (parts.toList.map fun p => (p.1, a.eval p.2)) = vals) (cells : Array Value) (hf : P.built t vals = some cells)
    (h : wpPlan P l Q S n r (a.put o.dst (.agg cells)) w) : wpPlan P l Q S n ((i, false) :: r) a w :=
  plan_look ho (by simp [Region.wanted, hgd]) (fun w0 _ => by
    subst hv
    unfold execOp
    have := run_build (P := P) w0 t (parts.map fun (i, x) => (i, a.eval x)) cells (by rw [Array.toList_map]; exact hf)
    simp only [hop, Sem.run_bind, this, Result.andThen_ok]
    rfl) h
end
end Go.Proofs.YtooijgcildbnlaaGreat
namespace Go.Proofs.YtooijgcildbnlaaGreat.Store
open Go Go.RowKit Go.Proofs.YtooijgcildbnlaaGreat Go.Proofs.YtooijgcildbnlaaGreat.ShaW Go.Proofs.YtooijgcildbnlaaGreat.Path
set_option maxHeartbeats 3200000
set_option linter.unusedVariables false

set_option maxRecDepth 100000 in
theorem Leaf_long {w : World} {s : Nat} {F : Nat → Prop} {σ : SlabSt Nd} (h : At w s F σ) (K : Array Value) {ao : Option Addr} {len cap : Nat} (hl : 1024 < len) :
    Calls Tryz.prog 174 #[.pointer (some ⟨s, 0, none⟩), .agg K, .slice ao len cap] w fun e w' => e = .returned (.tuple #[.int .i64 0, .int .i64 4]) ∧ Adds w w' := by
  obtain ⟨a, G, h1, _⟩ := h
  have HR := Lib.hid (row_alloc h1 (.cells K 24))
  have hl' : (1024 : Int) < (len : Int) := by omega
  clear h1
  go_enter Tryz.func174, Tryz.ntmps174
  go_wp2_with fail
  refine (none_no HR.out).mono ?_; rintro e w1 ⟨rfl, rfl⟩
  go_wp2
  go_ret2
  exact ⟨rfl, (Ch.refl _ _).alloc _⟩

set_option maxRecDepth 100000 in
theorem Leaf_take {w : World} {s : Nat} {F : Nat → Prop} {σ : SlabSt Nd} (h : At w s F σ) (key : List UInt8) (hk : key.length = 32) {vv : Value} {bs : List UInt8} (hb : Bytes w vv bs) (hv : bs ≠ [] → ∀ k, vv.ownBlock = some k → k < w.heap.size) (hlen : bs.length ≤ 1024) :
    Calls Tryz.prog 174 #[.pointer (some ⟨s, 0, none⟩), .agg (brow key), vv] w fun e w' => ∃ v, e = .returned (.tuple #[.int .i64 (leafS σ key bs v).1, .int .i64 (leafS σ key bs v).2.1]) ∧ Moved w w' s F (leafS σ key bs v).2.2 := by
  have hls : ∀ v, leafS σ key bs v = σ.take (Nd.leaf (Tag.leafD key (Tag.valueD bs)) key (Tag.valueD bs) bs v) := fun v => by unfold leafS; rw [if_neg (by omega)]
  have hvl := Tag.Value_ok (w := w.alloc (.cells (brow key) 24)) (hb.keep ((Ch.refl (fun _ => False) w).alloc _) (fun _ _ h => h)) (fun h0 k hk => by have := hv h0 k hk; simp; omega) (by omega)
  have hleaf := fun w => Tag.Leaf_ok key (Tag.valueD bs) hk (Tag.digest_length _ _) w
  obtain ⟨ao, cap, rfl, _, _⟩ := hb.form
  obtain ⟨D, hD⟩ : ∃ D, D = Tag.leafD key (Tag.valueD bs) := ⟨_, rfl⟩
  obtain ⟨H, hH⟩ : ∃ H, H = Tag.valueD bs := ⟨_, rfl⟩
  have hDl : D.length = 32 := by rw [hD]; exact Tag.digest_length _ _
  have hHl : H.length = 32 := by rw [hH]; exact Tag.digest_length _ _
  rw [← hH] at hvl hleaf hls
  rw [← hH] at hD
  rw [← hD] at hleaf hls
  obtain ⟨K, hK⟩ : ∃ K, K = brow key := ⟨_, rfl⟩
  obtain ⟨HC, hHC⟩ : ∃ HC, HC = brow H := ⟨_, rfl⟩
  have hKs : K.size = 32 := by rw [hK, brow_size, hk]
  have hHs : HC.size = 32 := by rw [hHC, brow_size, hHl]
  have hH1 := brow_one H
  rw [← hHC] at hH1 hvl hleaf
  rw [← hK] at hvl hleaf ⊢
  obtain ⟨Z, hZ⟩ : ∃ Z, Z = brow (List.replicate 32 0) := ⟨_, rfl⟩
  have hzh := zeroH
  rw [← hZ] at hzh
  have hZs : Z.size = 32 := by rw [hZ]; rfl
  obtain ⟨i0, hi, hz0, hz1, hz2⟩ := info8
  have hbl : ¬ ((1024 : Int) < (bs.length : Int)) := by omega
  have hbl2 : (bs.length : Int) ≤ 1024 := by omega
  obtain ⟨a0, G0, h1, _⟩ := id h
  have LS := Lib.hid hls
  have VL := Lib.hid hvl
  have LF := Lib.hid hleaf
  have DD := Lib.hid (And.intro hDl hHl)
  have KK := Lib.hid (And.intro hK (And.intro hKs hk))
  have HH := Lib.hid (And.intro hHC (And.intro hHs hH1))
  have ZZ := Lib.hid (And.intro hzh hZs)
  have HI := Lib.hid (And.intro hi (And.intro hz0 (And.intro hz1 hz2)))
  have HB := Lib.hid (And.intro hb (And.intro hv hlen))
  have HA := Lib.hid h
  have HR := Lib.hid (row_alloc h1 (.cells K 24))
  clear hls hvl hleaf hD hH hDl hHl hK hKs hHC hHs hH1 hZ hzh hZs hi hz0 hz1 hz2 hb hv hlen h h1 hk
  go_enter Tryz.func174, Tryz.ntmps174
  go_wp2_with fail
  refine (none_no HR.out).mono ?_; rintro e w1 ⟨rfl, rfl⟩
  go_wp2_with fail
  refine VL.out.mono ?_; rintro e w2 ⟨rfl, hc2⟩
  have hk2 := hc2.row (heap_alloc_new w (.cells K 24)) id
  have hw2 := ((Ch.refl (fun _ => False) w).alloc (.cells K 24)).trans hc2 (fun _ h => h.elim)
  have hlt2 := row_lt hk2
  have K2 := Lib.hid hk2
  have W2 := Lib.hid hw2
  clear hc2 hk2 hw2
  go_wp2_with (first
    | ((with_reducible show wpList _ _ _ (⟨_, .alloc 85, _, _, _, _⟩ :: _) _ _); refine wpList_alloc_is rfl 85 rfl (.agg Z) ZZ.out.1 ?_; dsimp only [Value.cells]; try simp only [World.size_alloc])
    | ((with_reducible show wpList _ _ _ (⟨_, .store 85 _ _, _, _, _, _⟩ :: _) _ _); refine wpList_store_part rfl 85 _ _ rfl w2.heap.size 0 HC rfl rfl (heap_alloc_new _ _) (by rw [sizeH, HH.out.2.1]) (by rw [HH.out.2.1, ZZ.out.2]; omega) HH.out.2.2 HC (by rw [splice_all _ _ (by rw [Array.length_toList, Array.length_toList, HH.out.2.1, ZZ.out.2])]) ?_)
    | (at_builtin; refine wpList_append_copy rfl _ _ 73 rfl 5 i0 Tryz.underlying73 HI.out.1 HI.out.2.1 HI.out.2.2.1 HI.out.2.2.2 rfl _ rfl bs (HB.out.1.keep ((W2.out.alloc _).setRow (.inr W2.out.size) _) (fun _ _ h => h)) (by have := HB.out.2.2; omega) ?_; intro v' w4 hb4 hk4 hc4; have HB4 := Lib.hid (And.intro hb4 (And.intro hk4 hc4)); clear hb4 hk4 hc4))
  have hws := W2.out.size
  have hw4 : Adds w w4 := ((W2.out.alloc _).setRow (.inr W2.out.size) _).trans HB4.out.2.2 (fun _ h => h.elim)
  have hkr : w4.heap[w.heap.size]? = some (.cells K 24 (0, 0)) := HB4.out.2.2.row (row_setRow (row_alloc K2.out _) (by omega) _) id
  have hhr : w4.heap[w2.heap.size]? = some (.cells HC 85 (0, 0)) := HB4.out.2.2.row (row_setRow_same (heap_alloc_new _ _) _) id
  have hown : ∀ k, v'.ownBlock = some k → ¬ F k ∧ k < w4.heap.size := fun k hk => by
    obtain ⟨q1, q2⟩ := HB4.out.2.1 k hk
    refine ⟨fun hf => ?_, q2⟩
    obtain ⟨_, _, _, _, _, _, _, h6⟩ := HA.out
    have := h6 k hf
    simp at q1
    omega
  obtain ⟨av, cv, hv', _, _⟩ := HB4.out.1.form
  subst hv'
  have hX := Nd.leaf_ok (b := bs) DD.out.1 KK.out.2.2 DD.out.2 HB.out.2.2 (v := .slice av bs.length cv) ⟨_, _, _, rfl⟩
  have hbt := Nd.built_leaf D key H bs (.slice av bs.length cv) DD.out.1 KK.out.2.2 DD.out.2 HB.out.2.2 ⟨_, _, _, rfl⟩
  rw [← KK.out.1, ← HH.out.1] at hbt
  have hbd := Nd.built_digested D DD.out.1
  obtain ⟨DC, hDC⟩ : ∃ DC, DC = brow D := ⟨_, rfl⟩
  have hlf := LF.out
  rw [← hDC] at hbt hbd hlf
  obtain ⟨NC, hNC⟩ : ∃ NC, NC = (Nd.leaf D key H bs (.slice av bs.length cv)).cells := ⟨_, rfl⟩
  rw [← hNC] at hbt
  obtain ⟨a, G, h1, h2, h3, h4, h5, h6⟩ := HA.out.adds hw4
  have hsw : s < w.heap.size := by obtain ⟨_, _, _, _, _, q4, _, q6⟩ := HA.out; exact q6 s q4
  have hFw : ∀ k, F k → k < w.heap.size := by obtain ⟨_, _, _, _, _, _, _, q6⟩ := HA.out; exact q6
  have RS := Lib.hid (And.intro hkr (And.intro hhr h1))
  have XX := Lib.hid (And.intro hX (And.intro hNC hown))
  have BT := Lib.hid hbt
  have BD := Lib.hid hbd
  have LF2 := Lib.hid hlf
  have W4 := Lib.hid hw4
  have FW := Lib.hid (And.intro hFw h5)
  clear hX hbt hbd hlf hDC hNC hkr hhr h1 h2 h3 h4 h5 h6 hw4 hown hFw LF
  refine wp_region_plan (fun w0 => w0.heap[w.heap.size]? = some (.cells K 24 (0, 0)) ∧ w0.heap[w2.heap.size]? = some (.cells HC 85 (0, 0)) ∧ w0.heap[s]? = some (.cells #[.pointer (some ⟨a, 0, none⟩)] 165 (0, 0))) 15 [(0, false), (1, false), (2, false), (3, false), (4, false), (5, false), (8, false), (9, false), (10, false), (6, true), (7, false), (11, false), (12, true), (13, false), (14, false)] (by kernel_rfl) (by kernel_rfl) ?_ ?_
  · exact RS.out
  iterate 3 refine plan_look rfl rfl (fun w0 hS => (by go_simp; try rfl)) ?_
  refine plan_look rfl rfl (fun w0 hS => (by have c := row_cell hS.2.2 (i := 0) rfl; clear hS; go_simp; try rfl)) ?_
  simp only [Act.put, List.setIfInBounds_toArray, List.set_cons_succ, List.set_cons_zero]
  refine plan_load_part (cur := K) (t := 24) (fr := (0, 0)) rfl rfl 24 (.tmp 4) rfl w.heap.size 0 32 rfl (fun w0 hS => hS.1) Tryz.underlying24 rfl sizeP (by rw [KK.out.2.1]; omega) K (by simp [← KK.out.2.1]) ?_
  simp only [Act.put, List.setIfInBounds_toArray, List.set_cons_succ, List.set_cons_zero]
  refine plan_load_part (cur := HC) (t := 85) (fr := (0, 0)) rfl rfl 85 (.tmp 8) rfl w2.heap.size 0 32 rfl (fun w0 hS => hS.2.1) Tryz.underlying85 rfl sizeH (by rw [HH.out.2.1]; omega) HC (by simp [← HH.out.2.1]) ?_
  simp only [Act.put, List.setIfInBounds_toArray, List.set_cons_succ, List.set_cons_zero]
  refine plan_load_part (cur := K) (t := 24) (fr := (0, 0)) rfl rfl 24 (.tmp 4) rfl w.heap.size 0 32 rfl (fun w0 hS => hS.1) Tryz.underlying24 rfl sizeP (by rw [KK.out.2.1]; omega) K (by simp [← KK.out.2.1]) ?_
  simp only [Act.put, List.setIfInBounds_toArray, List.set_cons_succ, List.set_cons_zero]
  iterate 1 refine plan_look rfl rfl (fun w0 hS => (by go_simp; try rfl)) ?_
  simp only [Act.put, List.setIfInBounds_toArray, List.set_cons_succ, List.set_cons_zero]
  refine plan_load_part (cur := HC) (t := 85) (fr := (0, 0)) rfl rfl 85 (.tmp 8) rfl w2.heap.size 0 32 rfl (fun w0 hS => hS.2.1) Tryz.underlying85 rfl sizeH (by rw [HH.out.2.1]; omega) HC (by simp [← HH.out.2.1]) ?_
  simp only [Act.put, List.setIfInBounds_toArray, List.set_cons_succ, List.set_cons_zero]
  refine plan_do rfl ?_
  go_wp2_with fail
  refine (LF2.out _).mono ?_; rintro e w5 ⟨rfl, hc5⟩
  dsimp only
  go_step
  refine wpList_nil ?_
  change _ ∧ _
  have hS5 := And.intro (hc5.row RS.out.1 id) (And.intro (hc5.row RS.out.2.1 id) (hc5.row RS.out.2.2 id))
  refine ⟨hS5, ?_⟩
  refine plan_build rfl rfl 157 _ rfl [(0, .agg DC)] rfl _ BD.out ?_
  simp only [Act.put, List.setIfInBounds_toArray, List.set_cons_succ, List.set_cons_zero]
  refine plan_build rfl rfl 159 _ rfl [(0, .agg DC), (1, .int .u8 1), (2, .int .i64 (-1)), (3, .agg K), (4, .slice av bs.length cv), (5, .agg HC), (8, .int .i64 1), (9, .int .i64 1)] rfl _ BT.out ?_
  simp only [Act.put, List.setIfInBounds_toArray, List.set_cons_succ, List.set_cons_zero]
  refine plan_do rfl ?_
  have hw5 : Adds w w5 := W4.out.drew.trans hc5 (fun _ h => h.elim)
  have hbx := HB4.out.1.keep ((Ch.refl (fun _ => False) w4).drew.trans hc5 (fun _ h => h.elim)) (fun _ _ h => h)
  have hs45 := hc5.size
  obtain ⟨a', G', g1, g2, g3, g4⟩ := take_lift (HA.out.adds hw5) XX.out.1 hbx (fun k hk => ⟨(XX.out.2.2 k hk).1, Nat.lt_of_lt_of_le (XX.out.2.2 k hk).2 hs45⟩)
  have haa : a' = a := by
    have h4 := g1.symm.trans hS5.2.2
    simp only [Option.some.injEq, Obj.cells.injEq, Value.pointer.injEq, Addr.mk.injEq, Array.mk.injEq, List.cons.injEq, and_true] at h4
    simpa using h4
  subst haa
  have htk := SlabN.Take_ok g2 (Nd.leaf D key H bs (.slice av bs.length cv)).enc (Nd.enc_ok XX.out.1)
  rw [SlabSt.map_take] at htk
  rw [show (Nd.leaf D key H bs (.slice av bs.length cv)).enc = .agg NC by rw [XX.out.2.1]; rfl] at htk
  have TK := Lib.hid htk
  have G4 := Lib.hid (And.intro g4 g3)
  have S5 := Lib.hid hS5
  have W5 := Lib.hid hw5
  clear htk g1 g2 g3 g4 hS5 hw5 hbx hc5 hs45
  go_wp2_with fail
  refine TK.out.mono ?_; rintro e w6 ⟨rfl, hm6⟩
  dsimp only
  go_step
  refine wpList_nil ?_
  change _ ∧ _
  have hws5 := W5.out.size
  obtain ⟨G6, p1, p2, p3⟩ := id hm6
  refine ⟨⟨p2.row S5.out.1 (fun hg => by have := FW.out.1 _ (G4.out.2 _ hg).1; omega), p2.row S5.out.2.1 (fun hg => by have := FW.out.1 _ (G4.out.2 _ hg).1; omega), p2.row S5.out.2.2 (fun hg => (G4.out.2 _ hg).2.1 rfl)⟩, ?_⟩
  have M6 := Lib.hid hm6
  clear hm6 p1 p2 p3
  iterate 2 refine plan_look rfl rfl (fun w0 hS => (by go_simp; try rfl)) ?_
  refine plan_end ?_; simp only [List.drop_succ_cons, List.drop_zero]
  go_wp2
  refine NoPanic.normal ?_
  go_wp2
  go_ret2
  refine ⟨.slice av bs.length cv, ?_, ?_⟩
  · rw [LS.out]
    rfl
  · rw [LS.out]
    refine Moved.from W5.out (G4.out.1 _ M6.out) (fun k hk => ?_)
    rcases hk with hk | hk
    · exact .inl hk
    · refine .inr ?_
      obtain ⟨q1, q2⟩ := HB4.out.2.1 k hk
      simp at q1
      omega

/-- Leaf. -/
theorem Leaf_ok {w : World} {s : Nat} {F : Nat → Prop} {σ : SlabSt Nd} (h : At w s F σ) (key : List UInt8) (hk : key.length = 32) {vv : Value} {bs : List UInt8} (hb : Bytes w vv bs) (hv : bs ≠ [] → ∀ k, vv.ownBlock = some k → k < w.heap.size) :
    Calls Tryz.prog 174 #[.pointer (some ⟨s, 0, none⟩), .agg (brow key), vv] w fun e w' => ∃ v, e = .returned (.tuple #[.int .i64 (leafS σ key bs v).1, .int .i64 (leafS σ key bs v).2.1]) ∧ Moved w w' s F (leafS σ key bs v).2.2 := by
  by_cases hl : 1024 < bs.length
  · obtain ⟨ao, cap, rfl, _, _⟩ := hb.form
    refine (Leaf_long h (brow key) hl).mono fun e w' ⟨he, ha⟩ => ⟨.slice none 0 0, ?_, ?_⟩
    · rw [he]; unfold leafS; rw [if_pos hl]
    · unfold leafS; rw [if_pos hl]; exact Moved.same h ha
  · exact Leaf_take h key hk hb hv (by omega)

end Go.Proofs.YtooijgcildbnlaaGreat.Store
