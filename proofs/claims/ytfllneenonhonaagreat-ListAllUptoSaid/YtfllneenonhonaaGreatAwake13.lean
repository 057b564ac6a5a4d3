/- law13.awake: three entries are counted, ranked and listed. -/
import Derived.Test.YtfllneenonhonaaGreatFill13
import Derived.Test.YtfllneenonhonaaGreatList3
namespace Go.Proofs.YtfllneenonhonaaGreat.Law13
open Go Go.RowKit Go.Proofs.YtfllneenonhonaaGreat Go.Proofs.YtfllneenonhonaaGreat.ShaW Go.Proofs.YtfllneenonhonaaGreat.Path Go.Proofs.YtfllneenonhonaaGreat.Store Go.Proofs.YtfllneenonhonaaGreat.Law9
set_option maxHeartbeats 1600000
set_option linter.unusedVariables false

theorem wpOp_build_one {P : Program} {w : World} {o : Oper} {a : Act} {K : Act → World → Prop} {Q : Exit → Act → World → Prop} (t k : Nat) (x : Operand) (ho : o.op = .build t #[(k, x)]) (vx : Value) (hx : a.eval x = vx)
    (cells : Array Value) (hf : P.built t [(k, vx)] = some cells) (h : K (a.put o.dst (.agg cells)) w) : o.wp P a w K Q := by
  have hr := run_build (P := P) w t (#[(k, x)].map fun (i, x) => (i, a.eval x)) cells (by simpa [hx] using hf)
  have he : (execOp a.eval o).run P w = .ok (.value (.agg cells)) w := by
    unfold execOp
    simp only [ho, Sem.run_bind, hr, Result.andThen_ok]
    rfl
  unfold Oper.wp
  rw [he]
  exact h
theorem wpList_gbuild_one {P : Program} {ops : Array Oper} {w : World} {rest : List Oper} {o : Oper} {a : Act} {Q : Exit → Act → World → Prop} (hw : Region.wanted o (yielded ops a.tmps) = true) (t k : Nat) (x : Operand) (ho : o.op = .build t #[(k, x)]) (vx : Value) (hx : a.eval x = vx)
    (cells : Array Value) (hf : P.built t [(k, vx)] = some cells) (h : wpList P ops Q rest (a.put o.dst (.agg cells)) w) : wpList P ops Q (o :: rest) a w :=
  wpList_step fun K hK => by
    rw [if_pos hw]
    exact wpOp_build_one t k x ho vx hx cells hf (hK _ _ h)
/-- The tree of the three, and what the calls make of it. -/
def tree3 : Tr := tree 256 ents3
theorem tree3_ents : tree3.ents = ents3 := by decide +kernel
theorem tree3_leaves : tree3.leaves = 3 := by rw [← Tr.ents_length, tree3_ents]; rfl
theorem entsOf_ent {l : List Pr} (h : l.map Pr.ent = ents3) : (entsOf l).Perm ents3 := by
  have : ∀ (L : Ents) (l : List Pr), l.foldl (fun L p => upd L p.key p.val) L = (l.map Pr.ent).foldl (fun L p => upd L p.1 p.2) L := fun L l => by rw [List.foldl_map]; rfl
  unfold entsOf
  rw [this, h]
  decide +kernel
theorem rank_128 : tree3.rank (keyL 128) = 2 := by unfold Tr.rank; rw [tree3_ents]; decide +kernel
theorem from_0 : tree3.from (List.replicate 32 0) = ents3 := by unfold Tr.from; rw [tree3_ents]; decide +kernel
/-- A store that holds the three. -/
structure Has3 (w0 w : World) (s : Nat) (root : Int) : Prop where
  st : ∃ σ : SlabSt Nd, Store.Good σ ∧ Rep (sk σ) root 0 tree3 ∧ rootErr σ root = 0 ∧ Ow w0 w s σ (fun _ => False)
theorem Has3.adds {w0 w w' : World} {s : Nat} {root : Int} (h : Has3 w0 w s root) (a : Adds w w') : Has3 w0 w' s root := by
  obtain ⟨σ, p, q, r, t⟩ := h.st
  exact ⟨σ, p, q, r, t.adds a⟩
theorem Has3.world {w0 w : World} {s : Nat} {root : Int} (h : Has3 w0 w s root) : Adds w0 w := by
  obtain ⟨σ, p, q, r, t⟩ := h.st
  exact t.world
theorem filled3 {w : World} {ao : Option Addr} {l : List Pr} (hl : PairsAt w ao l) (hn : l.length = 3) (he : l.map Pr.ent = ents3) (hval : ∀ x ∈ l, x.val.length ≤ 1024) :
    Calls Tryz.prog 27 #[.slice ao 3 3] w fun e w' => ∃ s root, e = .returned (.tuple #[.pointer (some ⟨s, 0, none⟩), .int .i64 root, .bool true]) ∧ Has3 w w' s root := by
  have h := filled_ok 3 hl (by omega) hval
  rw [hn] at h
  refine h.mono ?_
  rintro e w' ⟨s, σ, root, rfl, hs⟩
  have D := hs.db.perm (entsOf_ent he)
  exact ⟨s, root, rfl, ⟨σ, D.good, D.rep, rootErr_hand D.hand, hs.own⟩⟩
section
variable {w0 w : World} {s : Nat} {root : Int}
theorem Has3.count (h : Has3 w0 w s root) : Calls Tryz.prog 36 #[.pointer (some ⟨s, 0, none⟩), .int .i64 root] w fun e w' => e = .returned (.tuple #[.int .i64 3, .int .i64 0]) ∧ Adds w w' := by
  obtain ⟨σ, G, R, E, O⟩ := h.st
  obtain ⟨F, hF⟩ := O.at
  have := Count_ok' hF G R E
  rw [tree3_leaves] at this
  exact this
theorem Has3.rank (h : Has3 w0 w s root) : Calls Tryz.prog 30 #[.pointer (some ⟨s, 0, none⟩), .int .i64 root, .agg (brow (keyL 128))] w fun e w' => e = .returned (.tuple #[.int .i64 2, .int .i64 0]) ∧ Adds w w' := by
  obtain ⟨σ, G, R, E, O⟩ := h.st
  obtain ⟨F, hF⟩ := O.at
  have := Rank_ok hF G R E (keyL 128) rfl
  rw [rank_128] at this
  exact this
theorem Has3.nth (h : Has3 w0 w s root) : Calls Tryz.prog 31 #[.pointer (some ⟨s, 0, none⟩), .int .i64 root, .int .i64 1] w fun e w' => ∃ x : Pr, e = .returned (.tuple #[.agg x.cells, .int .i64 0]) ∧ x.key = keyL 64 ∧ x.val = [98] ∧ Bytes w' x.vv x.val ∧ Adds w w' := by
  obtain ⟨σ, G, R, E, O⟩ := h.st
  obtain ⟨F, hF⟩ := O.at
  have := Nth_ok hF G R E 1 (keyL 64, [98]) (by rw [tree3_ents]; rfl)
  refine this.mono ?_
  rintro e w' ⟨x, rfl, he, _, hb, _, a⟩
  obtain ⟨e1, e2⟩ : x.key = keyL 64 ∧ x.val = [98] := by simpa [Pr.ent] using he
  exact ⟨x, rfl, e1, e2, hb, a⟩
theorem Has3.all (h : Has3 w0 w s root) : Calls Tryz.prog 13 #[.pointer (some ⟨s, 0, none⟩), .int .i64 root] w fun e w' => ∃ q, e = .returned q ∧ SeqIs w.heap.size w' ents3 q ∧ Adds w w' := by
  obtain ⟨σ, G, R, E, O⟩ := h.st
  obtain ⟨F, hF⟩ := O.at
  have := From_ok hF G R E (List.replicate 32 0) rfl
  rw [from_0] at this
  exact All_of (R := fun q w' => SeqIs w.heap.size w' ents3 q ∧ Adds w w') this ⟨_, rfl⟩
end
theorem seq_form {base : Nat} {w : World} {E : Ents} {q : Value} (h : SeqIs base w E q) : ∃ b, q = .func (.func 94) #[] #[.pointer (some ⟨b, 0, none⟩)] := by
  obtain ⟨b, v, out, h1, _⟩ := h
  exact ⟨b, h1⟩
theorem seq_adds {base : Nat} {w w' : World} {E : Ents} {q : Value} (h : SeqIs base w E q) (a : Adds w w') : SeqIs base w' E q := by
  obtain ⟨b, v, out, h1, h2, h3, h4, h5, h6, h7⟩ := h
  exact ⟨b, v, out, h1, h2, a.row h3 id, h4.adds a, h5, h6, h7⟩
set_option maxRecDepth 100000 in
theorem awake_ok (w : World) : Calls Tryz.prog 25 #[] w fun e w' => e = .returned (.bool true) ∧ Adds w w' := by
  obtain ⟨K2, hK2⟩ : ∃ K, K = brow (keyL 128) := ⟨_, rfl⟩
  obtain ⟨K1, hK1⟩ : ∃ K, K = brow (keyL 64) := ⟨_, rfl⟩
  obtain ⟨Z, hZ⟩ : ∃ Z, Z = zPair := ⟨_, rfl⟩
  have hb2 := key_built1
  have hb1 := key_built64
  rw [← hK2] at hb2
  rw [← hK1] at hb1
  obtain ⟨hz0, hz1, _, _⟩ := pair_z
  rw [← hZ] at hz0 hz1
  have hqk := eql_keys 24 Tryz.underlying24 (keyL 64) (keyL 64) rfl rfl
  rw [← hK1] at hqk
  simp only [decide_true] at hqk
  have HB := Lib.hid (And.intro hb1 hb2)
  have HZ := Lib.hid (And.intro hz0 hz1)
  have HK := Lib.hid (And.intro hK1 hK2)
  clear hb1 hb2 hz0 hz1 hZ hK1 hK2
  go_enter Tryz.func25, Tryz.ntmps25
  go_wp2_with fail
  refine (three_ok w).mono ?_; rintro e w1 ⟨ao, l, rfl, h1, h2, h3, h4, a1⟩
  have HF := Lib.hid (filled3 h1 h2 h3 h4)
  have A1 := Lib.hid a1
  clear h1 h2 h3 h4 a1
  go_wp2_with fail
  refine HF.out.mono ?_; rintro e w2 ⟨s, root, rfl, hs⟩
  have HS := Lib.hid hs
  have A2 := Lib.hid (A1.out.trans hs.world (fun _ h => h.elim))
  clear hs A1 HF
  go_wp2_with fail
  refine HS.out.count.mono ?_; rintro e w3 ⟨rfl, a3⟩
  have A3 := Lib.hid a3
  have HR := Lib.hid (HS.out.adds a3).rank
  rw [← HK.out.2] at HR
  clear a3
  go_wp2_with (first
    | fail
    | ((with_reducible show wpList _ _ _ (⟨_, .build 24 _, _, _, _, _⟩ :: _) _ _); refine wpList_build_one rfl 24 0 _ rfl (.int .u8 128) rfl K2 HB.out.2 ?_))
  refine HR.out.mono ?_; rintro e w4 ⟨rfl, a4⟩
  have A4 := Lib.hid (A3.out.trans a4 (fun _ h => h.elim))
  clear a4 HR A3
  go_wp2_with fail
  refine (HS.out.adds A4.out).nth.mono ?_; rintro e w5 ⟨x, rfl, hxk, hxv, hxb, a5⟩
  obtain ⟨C, hC⟩ : ∃ C, C = x.cells := ⟨_, rfl⟩
  have hxl : x.key.length = 32 := by rw [hxk]; rfl
  have hCs : C.size = 33 := by rw [hC]; exact Pr.size hxl
  obtain ⟨xo, xc, hvv, _⟩ := hxb.form
  have hC1 : ∀ u ∈ C.toList, u.oneCell' = true := fun u hu => by
    rw [hC, Pr.list, List.mem_append, List.mem_map, List.mem_singleton] at hu
    rcases hu with ⟨b, _, rfl⟩ | rfl
    · rfl
    · rw [hvv]; rfl
  have hCk : C.extract 0 (0 + 32) = K1 := by rw [hC, HK.out.1, ← hxk]; exact Pr.at_key hxl
  have hCv : C[32]? = some x.vv := by rw [hC]; exact Pr.at_val hxl
  obtain ⟨w6, hw6⟩ : ∃ w6, w6 = (w5.alloc (.cells Z 81)).setRow w5.heap.size C := ⟨_, rfl⟩
  have a6 : Adds w5 w6 := by rw [hw6]; exact ((Ch.refl _ _).alloc _).setRow (.inr (Nat.le_refl _)) _
  have r6 : w6.heap[w5.heap.size]? = some (.cells C 81 (0, 0)) := by rw [hw6]; exact row_setRow_same (heap_alloc_new _ _) _
  have c32 := row_cell r6 hCv
  have hcv := conv_bytes (hxb.keep a6 (fun _ _ h => h))
  rw [hvv] at c32 hcv
  rw [hxv] at c32 hcv
  simp only [List.length_cons, List.length_nil, Nat.zero_add] at c32 hcv
  obtain ⟨S, hS⟩ : ∃ S, S = bstr [98] := ⟨_, rfl⟩
  rw [← hS] at hcv
  have hse : S.toList = [98] := by rw [hS, ByteArray.toList_eq]; rfl
  have A6 := Lib.hid (And.intro ((A4.out.trans a5 (fun _ h => h.elim)).trans a6 (fun _ h => h.elim)) (And.intro r6 hw6))
  have HC := Lib.hid (And.intro hCs (And.intro hC1 hCk))
  have HALL := Lib.hid (HS.out.adds A6.out.1).all
  rw [← hC]
  clear a5 hxk hxv hxb hC hxl hCs hvv hC1 hCk hCv hw6 a6 r6 hS
  go_upto_region 5 with (first
    | fail
    | ((with_reducible show wpList _ _ _ (⟨_, .alloc 81, _, _, _, _⟩ :: _) _ _); refine wpList_alloc_is rfl 81 rfl (.agg Z) HZ.out.1 ?_; dsimp only [Value.cells]; try simp only [World.size_alloc])
    | ((with_reducible show wpList _ _ _ (⟨_, .store 81 _ _, _, _, _, _⟩ :: _) _ _); refine wpList_store_part rfl 81 _ _ rfl w5.heap.size 0 C rfl rfl (heap_alloc_new _ _) (by rw [sizePr, HC.out.1]) (by rw [HC.out.1, HZ.out.2]; omega) HC.out.2.1 C (by rw [splice_all _ _ (by rw [Array.length_toList, Array.length_toList, HC.out.1, HZ.out.2])]) ?_))
  rw [← A6.out.2.2]
  go_wp2_with (first
    | fail
    | ((with_reducible show wpList _ _ _ (⟨_, .load 24 _, _, _, _, _⟩ :: _) _ _); refine wpList_gload_part (by first | rfl | (simp [Region.wanted]; done)) 24 _ rfl w5.heap.size 0 rfl A6.out.2.1 Tryz.underlying24 rfl sizeP (by rw [HC.out.1]; omega) K1 HC.out.2.2 ?_)
    | ((with_reducible show wpList _ _ _ (⟨_, .build 24 _, _, _, _, _⟩ :: _) _ _); refine wpList_gbuild_one (by first | rfl | (simp [Region.wanted]; done)) 24 0 _ rfl (.int .u8 64) rfl K1 HB.out.1 ?_))
  refine HALL.out.mono ?_; rintro e w7 ⟨q, rfl, hq, a7⟩
  obtain ⟨b, rfl⟩ := seq_form hq
  have A7 := Lib.hid (And.intro hq (A6.out.1.trans a7 (fun _ h => h.elim)))
  clear hq a7 c32 hcv hse
  go_wp2_with fail
  refine (three_ok w7).mono ?_; rintro e w8 ⟨ao2, l2, rfl, g1, g2, g3, g4, a8⟩
  have hgo := gone_ok (seq_adds A7.out.1 a8) 3 g1 g3.symm (by omega) g4 0
  rw [g2] at hgo
  have HGO := Lib.hid hgo
  have A8 := Lib.hid (A7.out.2.trans a8 (fun _ h => h.elim))
  clear hgo g1 g2 g3 g4 a8
  go_wp2_with fail
  refine HGO.out.mono ?_; rintro e w9 ⟨rfl, a9⟩
  have A9 := Lib.hid ((A2.out.trans A8.out (fun _ h => h.elim)).trans a9 (fun _ h => h.elim))
  clear a9
  go_wp2
  go_ret
  exact ⟨rfl, A9.out⟩
end Go.Proofs.YtfllneenonhonaaGreat.Law13
