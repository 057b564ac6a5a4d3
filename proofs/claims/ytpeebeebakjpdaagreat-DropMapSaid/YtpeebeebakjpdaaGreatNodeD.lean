/- node.RootAt at the top, node.Root: the root of entries. -/
import Derived.Test.YtpeebeebakjpdaaGreatNodeC
namespace Go.Proofs.YtpeebeebakjpdaaGreat.Law9
open Go Go.RowKit Go.Sort Go.Proofs.YtpeebeebakjpdaaGreat Go.Proofs.YtpeebeebakjpdaaGreat.ShaW Go.Proofs.YtpeebeebakjpdaaGreat.Path Go.Proofs.YtpeebeebakjpdaaGreat.Store
set_option maxHeartbeats 3200000
set_option linter.unusedVariables false

theorem plan_gload_part {P : Program} {S : World → Prop} {Q : Exit → Act → World → Prop} {l : List Oper} {n i : Nat} {r : List (Nat × Bool)} {a : Act} {w : World} {o : Oper} (ho : l[i]? = some o) (hw : Region.wanted o (yielded l.toArray a.tmps) = true) (ty : TypeId) (x : Operand) (hop : o.op = .load ty x) (g off k : Nat) (hx : a.eval x = .pointer (some ⟨g, off, none⟩))
    {t : TypeId} {cur : Array Value} {fr : Nat × Nat} {d : TypeDesc} (hg : ∀ w0, S w0 → w0.heap[g]? = some (.cells cur t fr)) (hu : P.underlying ty = some d) (hd : d.isRow = true) (hi : (P.info? ty).map (·.size) = some k) (hfit : off + k ≤ cur.size) (cs : Array Value) (hv : cur.extract off (off + k) = cs)
    (h : wpPlan P l Q S n r (a.put o.dst (.agg cs)) w) : wpPlan P l Q S n ((i, false) :: r) a w :=
  plan_look ho hw (fun w0 hS => by
    unfold execOp
    simp only [hop, hx, Instr.loadAt, Instr.sureAddr, Sem.run_bind, Sem.run_pure, Result.andThen_ok, run_load_part w0 (hg w0 hS) hu hd hi hfit, hv]) h
theorem hash_built : Tryz.prog.built 58 [] = some (brow (List.replicate 32 0)) := by kernel_rfl
theorem fine_ok {l : List Pr} (h : ∀ x ∈ l, x.key.length = 32) (hf : (l.map (·.key)).Nodup) (k : List UInt8) : Ents.Ok (l.map Pr.ent) k 0 :=
  ⟨by rw [keysOf_ents]; exact hf, fun p hp => by obtain ⟨x, hx, rfl⟩ := List.mem_map.1 hp; exact h x hx, fun _ _ _ h => absurd h (Nat.not_lt_zero _)⟩
theorem rootSorted_ok {w : World} {ao' : Option Addr} {cap' : Nat} {l l' : List Pr} (hf : FineP l) (h1 : l'.length = l.length) (h2 : l.length ≤ cap' ∨ l = []) (h3 : l'.Perm l) (h4 : Rising (l'.map Pr.ent)) (h5 : PairsAt w ao' l') :
    Calls Tryz.prog 125 #[.slice ao' l.length cap', .int .i64 0] w fun e w' => e = .returned (.agg (brow (tree 256 (l.map Pr.ent)).dig)) ∧ Adds w w' := by
  rw [← tree_perm 256 (h3.map Pr.ent)]
  rcases h2 with h2 | h2
  · have hn : (l'.map (·.key)).Nodup := (h3.map _).nodup_iff.2 hf.2.2
    have := root_ok 256 (Nat.le_refl _) cap' (k := []) h5 (by omega) (by rw [h1]; exact hf.1) (fine_ok (fun x hx => (h5.1 x hx).key) hn []) h4 (fun x hx => hf.2.1 x (h3.mem_iff.1 hx))
    rw [h1] at this
    exact this
  · subst h2
    have : l' = [] := List.eq_nil_of_length_eq_zero (by simpa using h1)
    subst this
    exact root_none ao' cap' 0 w
set_option maxRecDepth 100000 in
theorem rootAt_ok {w : World} {ao : Option Addr} {l : List Pr} (cap : Nat) (h : PairsAt w ao l) :
    Calls Tryz.prog 76 #[.slice ao l.length cap, .int .i64 0] w fun e w' => Adds w w' ∧ ∃ hb c, e = .returned (.tuple #[.agg (brow hb), .int .i64 c]) ∧ hb.length = 32 ∧ (c = 0 ↔ FineP l) ∧ (FineP l → hb = (tree 256 (l.map Pr.ent)).dig) := by
  obtain ⟨Z, hZ⟩ : ∃ Z, Z = brow (List.replicate 32 0) := ⟨_, rfl⟩
  have hzh := zeroH
  have hzb := hash_built
  rw [← hZ] at hzh hzb
  have hZs : Z.size = 32 := by rw [hZ]; rfl
  have hz1 : ∀ v ∈ Z.toList, v.oneCell' = true := by rw [hZ]; exact brow_one _
  have HZ := Lib.hid (And.intro hzh (And.intro hZs (And.intro hzb (And.intro hz1 hZ))))
  have hw1 : Adds w (w.alloc (.cells Z 58)) := (Ch.refl _ _).alloc _
  have hso := sorted_ok cap (h.keep hw1 (fun _ h => h.elim))
  obtain ⟨len, hlen⟩ : ∃ len, len = l.length := ⟨_, rfl⟩
  rw [← hlen] at hso ⊢
  have HSO := Lib.hid hso
  have W1 := Lib.hid hw1
  have HL := Lib.hid hlen
  clear hzh hZs hzb hz1 hZ h hso hw1 hlen
  go_enter Tryz.func76, Tryz.ntmps76
  go_wp2_with (first
    | fail
    | ((with_reducible show wpList _ _ _ (⟨_, .alloc 58, _, _, _, _⟩ :: _) _ _); refine wpList_alloc_is rfl 58 rfl (.agg Z) HZ.out.1 ?_; dsimp only [Value.cells]; try simp only [World.size_alloc]))
  refine HSO.out.mono ?_; rintro e w2 ⟨a2, v, c, rfl, hcv, hc, hy⟩
  have A2 := Lib.hid (And.intro (W1.out.trans a2 (fun _ h => h.elim)) (a2.row (heap_alloc_new w (.cells Z 58)) id))
  clear a2 HSO
  by_cases hc0 : c = 0
  · subst hc0
    obtain ⟨ao', cap', l', rfl, s1, s2, s3, s4, s5⟩ := hy rfl
    have hf := hc.1 rfl
    have hrt := fun w3 (a : Adds w2 w3) => rootSorted_ok hf (by rw [s1, HL.out]) (by rw [← HL.out]; exact s2) s3 s4 (s5.keep a (fun _ h => h.elim))
    obtain ⟨O, hO⟩ : ∃ O, O = brow (tree 256 (l.map Pr.ent)).dig := ⟨_, rfl⟩
    have hos : O.size = 32 := by rw [hO, brow_size]; exact Tr.dig_length _
    have ho1 := brow_one (tree 256 (l.map Pr.ent)).dig
    rw [← hO] at ho1 hrt
    rw [← HL.out] at hrt
    have HO := Lib.hid (And.intro hO (And.intro hos ho1))
    have HR := Lib.hid hrt
    have HF := Lib.hid hf
    have HS := Lib.hid (And.intro s1 s5)
    clear hcv hc hy hf hrt hO hos ho1 s1 s2 s3 s4 s5
    go_wp2_with fail
    have fin : ∀ w3 w4 : World, Adds w w3 → w3.heap[w.heap.size]? = some (.cells Z 58 (0, 0)) → Adds w3 w4 → Adds w (w4.setRow w.heap.size O) ∧ ∃ hb c, (Ending.returned (.tuple #[.agg O, .int .i64 0]) : Ending) = .returned (.tuple #[.agg (brow hb), .int .i64 c]) ∧ hb.length = 32 ∧ (c = 0 ↔ FineP l) ∧ (FineP l → hb = (tree 256 (l.map Pr.ent)).dig) := fun w3 w4 a3 z3 a4 =>
      ⟨(a3.trans a4 (fun _ h => h.elim)).setRow (.inr (Nat.le_refl _)) _, _, 0, by rw [HO.out.1], Tr.dig_length _, ⟨fun _ => HF.out, fun _ => rfl⟩, fun _ => rfl⟩
    have FIN := Lib.hid fin
    clear fin
    by_cases h1 : 1 < len
    · have h1' : (1 : Int) < (len : Int) := by omega
      have hd1 : decide ((1 : Int) < (len : Int)) = true := decide_eq_true h1'
      obtain ⟨j, hj⟩ : ∃ j : Nat, j = len - 1 := ⟨_, rfl⟩
      have hw1 : wrap64 ((len : Int) - 1) = (j : Int) := by have := HF.out.1; have := HL.out; unfold wrap64; omega
      have hjl : j < len := by omega
      have hjl' : (j : Int) < (len : Int) := by omega
      have h0l : 0 < len := by omega
      have h0l' : (0 : Int) < (len : Int) := by omega
      have hjs : j < l'.length := by have := HS.out.1; omega
      obtain ⟨x, hx⟩ : ∃ x, l'[0]? = some x := ⟨_, List.getElem?_eq_getElem (by omega)⟩
      obtain ⟨y, hy⟩ : ∃ y, l'[j]? = some y := ⟨_, List.getElem?_eq_getElem hjs⟩
      obtain ⟨g0, off, rfl, hp⟩ := HS.out.2.2 0 x hx
      obtain ⟨g1, off1, e1, hq⟩ := HS.out.2.2 j y hy
      injection e1 with e1
      injection e1 with ea eb
      subst ea eb
      have gx := HS.out.2.1 x (List.mem_of_getElem? hx)
      have gy := HS.out.2.1 y (List.mem_of_getElem? hy)
      obtain ⟨cur, ty, fr, c1, c2, c3⟩ := hp
      obtain ⟨cur', ty', fr', d1, d2, d3⟩ := hq
      rw [c1] at d1
      injection d1 with d1
      injection d1 with da db dc
      subst da db dc
      rw [Pr.size gx.key, Nat.zero_mul, Nat.add_zero] at c2 c3
      rw [Pr.size gy.key] at d2 d3
      obtain ⟨kx, _⟩ := pair_parts gx.key c3
      obtain ⟨ky, _⟩ := pair_parts gy.key d3
      have hcm := fun w3 => Common_ok x.key y.key gx.key gy.key w3
      obtain ⟨KX, hKX⟩ : ∃ K, K = brow x.key := ⟨_, rfl⟩
      obtain ⟨KY, hKY⟩ : ∃ K, K = brow y.key := ⟨_, rfl⟩
      rw [← hKX] at kx hcm
      rw [← hKY] at ky hcm
      obtain ⟨cm, hcmv⟩ : ∃ cm, cm = common x.key y.key := ⟨_, rfl⟩
      rw [← hcmv] at hcm
      have hneg : decide ((cm : Int) < 0) = false := decide_eq_false (by omega)
      have HC := Lib.hid (And.intro c1 (And.intro c2 (And.intro d2 (And.intro kx ky))))
      have HCM := Lib.hid hcm
      clear hj hjs hx hy HS gx gy c1 c2 c3 d2 d3 kx ky hKX hKY hcm hcmv
      refine wp_region_plan (fun w0 => w0.heap[g0]? = some (.cells cur ty fr)) 19 [(0, false), (1, false), (2, false), (3, false), (4, false), (5, false), (6, false), (7, false), (8, false), (9, false), (10, false), (11, false), (12, false), (13, false), (14, false), (16, false), (15, true), (17, false), (18, false)] (by kernel_rfl) (by kernel_rfl) ?_ ?_
      · exact HC.out.1
      iterate 2
        refine plan_look rfl rfl (fun w0 hS => (by clear hS; go_simp; try rfl)) ?_
        simp only [Act.put, List.setIfInBounds_toArray, List.set_cons_succ, List.set_cons_zero]
      iterate 2
        refine plan_look (v := .bool true) rfl rfl (fun w0 hS => (by clear hS; go_simp; try rfl)) ?_
        simp only [Act.put, List.setIfInBounds_toArray, List.set_cons_succ, List.set_cons_zero]
      iterate 3
        refine plan_look rfl rfl (fun w0 hS => (by clear hS; go_simp; try rfl)) ?_
        simp only [Act.put, List.setIfInBounds_toArray, List.set_cons_succ, List.set_cons_zero]
      refine plan_gload_part (cur := cur) (t := ty) (fr := fr) rfl rfl 34 _ rfl g0 off 32 rfl (fun w0 hS => hS) Tryz.underlying34 rfl sizeP (by have := HC.out.2.1; omega) KX HC.out.2.2.2.1 ?_
      simp only [Act.put, List.setIfInBounds_toArray, List.set_cons_succ, List.set_cons_zero]
      iterate 3
        refine plan_look rfl rfl (fun w0 hS => (by clear hS; go_simp; try rfl)) ?_
        simp only [Act.put, List.setIfInBounds_toArray, List.set_cons_succ, List.set_cons_zero]
      refine plan_look (v := .int .i64 (j : Int)) rfl rfl (fun w0 hS => (by clear hS; go_simp; exact (IntWalk.i64_left _).trans hw1)) ?_
      simp only [Act.put, List.setIfInBounds_toArray, List.set_cons_succ, List.set_cons_zero]
      iterate 2
        refine plan_look rfl rfl (fun w0 hS => (by clear hS; go_simp; try rfl)) ?_
        simp only [Act.put, List.setIfInBounds_toArray, List.set_cons_succ, List.set_cons_zero]
      refine plan_gload_part (cur := cur) (t := ty) (fr := fr) rfl rfl 34 _ rfl g0 (off + j * 33) 32 rfl (fun w0 hS => hS) Tryz.underlying34 rfl sizeP (by have := HC.out.2.2.1; omega) KY HC.out.2.2.2.2 ?_
      simp only [Act.put, List.setIfInBounds_toArray, List.set_cons_succ, List.set_cons_zero]
      refine plan_look rfl rfl (fun w0 hS => (by clear hS; go_simp; try rfl)) ?_
      simp only [Act.put, List.setIfInBounds_toArray, List.set_cons_succ, List.set_cons_zero]
      refine plan_do rfl ?_
      go_wp2_with fail
      refine (HCM.out _).mono ?_; rintro e w3 ⟨rfl, a3⟩
      have A3 := Lib.hid (And.intro (A2.out.1.drew.trans a3 (fun _ h => h.elim)) (And.intro (a3.row (row_drew A2.out.2) id) ((Ch.refl (fun _ => False) w2).drew.trans a3 (fun _ h => h.elim))))
      have S3 := Lib.hid (a3.row (row_drew HC.out.1) id)
      clear a3
      dsimp only
      go_step
      refine wpList_nil ?_
      change _ ∧ _
      refine ⟨S3.out, ?_⟩
      iterate 2
        refine plan_look (v := .bool false) rfl rfl (fun w0 hS => (by clear hS; go_simp; try rfl)) ?_
        simp only [Act.put, List.setIfInBounds_toArray, List.set_cons_succ, List.set_cons_zero]
      refine plan_end ?_; simp only [List.drop_succ_cons, List.drop_zero]
      go_wp2
      refine NoPanic.normal ?_
      go_wp2_with fail
      refine (HR.out _ A3.out.2.2).mono ?_; rintro e w4 ⟨rfl, a4⟩
      have A4 := Lib.hid (And.intro a4 (a4.row A3.out.2.1 id))
      clear a4
      go_wp2_with (first
        | fail
        | ((with_reducible show wpList _ _ _ (⟨_, .store 58 _ _, _, _, _, _⟩ :: _) _ _); refine wpList_store_part rfl 58 _ _ rfl w.heap.size 0 O rfl rfl A4.out.2 (by rw [sizeH, HO.out.2.1]) (by rw [HO.out.2.1, HZ.out.2.1]; omega) HO.out.2.2 O (by rw [splice_all _ _ (by rw [Array.length_toList, Array.length_toList, HO.out.2.1, HZ.out.2.1])]) ?_))
      exact bodyPost_ret_cell (p := 4) (u := 5) rfl rfl (row_setRow_same A4.out.2 _) Tryz.underlying58 rfl (by rw [sizeH, HO.out.2.1]) rfl (FIN.out _ _ A3.out.1 A3.out.2.1 A4.out.1)
    · have hd1 : decide ((1 : Int) < (len : Int)) = false := decide_eq_false (by omega)
      have hd1' : decide (1 < len) = false := decide_eq_false h1
      clear HS
      refine wp_region_plan (fun _ => True) 19 [(0, false), (1, false), (2, false), (3, false), (4, false), (5, false), (6, false), (7, false), (8, false), (9, false), (10, false), (11, false), (12, false), (13, false), (14, false), (16, false), (15, true), (17, false), (18, false)] (by kernel_rfl) (by kernel_rfl) ?_ ?_
      · trivial
      iterate 2
        refine plan_look rfl rfl (fun w0 hS => (by clear hS; go_simp; try rfl)) ?_
        simp only [Act.put, List.setIfInBounds_toArray, List.set_cons_succ, List.set_cons_zero]
      iterate 2
        refine plan_look (v := .bool false) rfl rfl (fun w0 hS => (by clear hS; go_simp; try rfl)) ?_
        simp only [Act.put, List.setIfInBounds_toArray, List.set_cons_succ, List.set_cons_zero]
      iterate 12
        refine plan_skip rfl rfl ?_
        simp only [Act.put, List.setIfInBounds_toArray, List.set_cons_succ, List.set_cons_zero]
      refine plan_do rfl ?_
      go_wp2
      refine ⟨trivial, ?_⟩
      refine plan_skip rfl rfl ?_
      simp only [Act.put, List.setIfInBounds_toArray, List.set_cons_succ, List.set_cons_zero]
      refine plan_look (v := .bool false) rfl rfl (fun w0 hS => (by clear hS; go_simp; try rfl)) ?_
      simp only [Act.put, List.setIfInBounds_toArray, List.set_cons_succ, List.set_cons_zero]
      refine plan_end ?_; simp only [List.drop_succ_cons, List.drop_zero]
      go_wp2
      refine NoPanic.normal ?_
      go_wp2_with fail
      refine (HR.out _ (Ch.refl _ _).drew).mono ?_; rintro e w4 ⟨rfl, a4⟩
      have A4 := Lib.hid (And.intro a4 (a4.row (row_drew A2.out.2) id))
      clear a4
      go_wp2_with (first
        | fail
        | ((with_reducible show wpList _ _ _ (⟨_, .store 58 _ _, _, _, _, _⟩ :: _) _ _); refine wpList_store_part rfl 58 _ _ rfl w.heap.size 0 O rfl rfl A4.out.2 (by rw [sizeH, HO.out.2.1]) (by rw [HO.out.2.1, HZ.out.2.1]; omega) HO.out.2.2 O (by rw [splice_all _ _ (by rw [Array.length_toList, Array.length_toList, HO.out.2.1, HZ.out.2.1])]) ?_))
      exact bodyPost_ret_cell (p := 4) (u := 5) rfl rfl (row_setRow_same A4.out.2 _) Tryz.underlying58 rfl (by rw [sizeH, HO.out.2.1]) rfl (FIN.out _ _ A2.out.1.drew (row_drew A2.out.2) A4.out.1)
  · have hv : v = .slice none 0 0 := by
      rcases hcv with h | h
      · exact absurd h hc0
      · exact h.2
    subst hv
    have hcn : (c != 0) = true := by simpa using hc0
    have hcn' : (c == 0) = false := by simpa using hc0
    have hcd : decide (c = 0) = false := decide_eq_false hc0
    have HF := Lib.hid (And.intro hc0 (show ¬ FineP l from fun hf => hc0 (hc.2 hf)))
    clear hc0 hcv hc hy
    go_wp2_with (first
      | fail
      | ((with_reducible show wpList _ _ _ (⟨_, .build 58 #[], _, _, _, _⟩ :: _) _ _); refine wpList_build_none rfl 58 rfl Z HZ.out.2.2.1 ?_)
      | ((with_reducible show wpList _ _ _ (⟨_, .store 58 _ _, _, _, _, _⟩ :: _) _ _); refine wpList_store_part rfl 58 _ _ rfl w.heap.size 0 Z rfl rfl A2.out.2 (by rw [sizeH, HZ.out.2.1]) (by rw [HZ.out.2.1]; omega) HZ.out.2.2.2.1 Z (by rw [splice_all _ _ rfl]) ?_))
    exact bodyPost_ret_cell (p := 4) (u := 5) rfl rfl (row_setRow_same A2.out.2 _) Tryz.underlying58 rfl (by rw [sizeH, HZ.out.2.1]) rfl ⟨A2.out.1.setRow (.inr (Nat.le_refl _)) _, List.replicate 32 0, c, by rw [HZ.out.2.2.2.2]; rfl, rfl, ⟨fun h => absurd h HF.out.1, fun h => absurd h HF.out.2⟩, fun h => absurd h HF.out.2⟩
/-- node.Root: the digest of the entries' tree; not if a value is long, a key stands twice or entries are too many. -/
theorem Root_ok {w : World} {ao : Option Addr} {l : List Pr} (cap : Nat) (h : PairsAt w ao l) :
    Calls Tryz.prog 28 #[.slice ao l.length cap] w fun e w' => Adds w w' ∧ ∃ hb c, e = .returned (.tuple #[.agg (brow hb), .int .i64 c]) ∧ hb.length = 32 ∧ (c = 0 ↔ FineP l) ∧ (FineP l → hb = (tree 256 (l.map Pr.ent)).dig) := by
  obtain ⟨Z, hZ⟩ : ∃ Z, Z = brow (List.replicate 32 0) := ⟨_, rfl⟩
  have hzh := zeroH
  rw [← hZ] at hzh
  have hZs : Z.size = 32 := by rw [hZ]; rfl
  have HZ := Lib.hid (And.intro hzh hZs)
  have hw1 : Adds w (w.alloc (.cells Z 58)) := (Ch.refl _ _).alloc _
  have hso := rootAt_ok cap (h.keep hw1 (fun _ h => h.elim))
  obtain ⟨len, hlen⟩ : ∃ len, len = l.length := ⟨_, rfl⟩
  rw [← hlen] at hso ⊢
  have HSO := Lib.hid hso
  have W1 := Lib.hid hw1
  clear hzh hZs hZ h hso hw1 hlen
  go_enter Tryz.func28, Tryz.ntmps28
  go_wp2_with (first
    | fail
    | ((with_reducible show wpList _ _ _ (⟨_, .alloc 58, _, _, _, _⟩ :: _) _ _); refine wpList_alloc_is rfl 58 rfl (.agg Z) HZ.out.1 ?_; dsimp only [Value.cells]; try simp only [World.size_alloc]))
  refine HSO.out.mono ?_; rintro e w2 ⟨a2, hb, c, rfl, hl, hc, hd⟩
  obtain ⟨O, hO⟩ : ∃ O, O = brow hb := ⟨_, rfl⟩
  have hos : O.size = 32 := by rw [hO, brow_size]; exact hl
  have ho1 := brow_one hb
  rw [← hO] at ho1 ⊢
  have HO := Lib.hid (And.intro hO (And.intro hos ho1))
  have HH := Lib.hid (And.intro hl (And.intro hc hd))
  have A2 := Lib.hid (And.intro (W1.out.trans a2 (fun _ h => h.elim)) (a2.row (heap_alloc_new w (.cells Z 58)) id))
  clear hl hc hd hO hos ho1 a2
  go_wp2_with (first
    | fail
    | ((with_reducible show wpList _ _ _ (⟨_, .store 58 _ _, _, _, _, _⟩ :: _) _ _); refine wpList_store_part rfl 58 _ _ rfl w.heap.size 0 O rfl rfl A2.out.2 (by rw [sizeH, HO.out.2.1]) (by rw [HO.out.2.1, HZ.out.2]; omega) HO.out.2.2 O (by rw [splice_all _ _ (by rw [Array.length_toList, Array.length_toList, HO.out.2.1, HZ.out.2])]) ?_))
  exact bodyPost_ret_cell (p := 2) (u := 3) rfl rfl (row_setRow_same A2.out.2 _) Tryz.underlying58 rfl (by rw [sizeH, HO.out.2.1]) rfl ⟨A2.out.1.setRow (.inr (Nat.le_refl _)) _, hb, c, by rw [HO.out.1]; rfl, HH.out.1, HH.out.2.1, HH.out.2.2⟩
end Go.Proofs.YtpeebeebakjpdaaGreat.Law9
