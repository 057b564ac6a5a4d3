/- node.RootAt at whatever depth, of entries that may be. -/
import Derived.Test.YtfllneenonhonaaNode1
import Derived.Test.YtfllneenonhonaaStoreP1
namespace Go.Proofs.Ytfllneenonhonaa.Law9
open Go Go.RowKit Go.Sort Go.Proofs.Ytfllneenonhonaa Go.Proofs.Ytfllneenonhonaa.ShaW Go.Proofs.Ytfllneenonhonaa.Path Go.Proofs.Ytfllneenonhonaa.Store
set_option maxHeartbeats 3200000
set_option linter.unusedVariables false

theorem rootSorted_deep {w : World} {ao' : Option Addr} {cap' : Nat} {l l' : List Pr} {m : Nat} (hm : m ≤ 256) {k : List UInt8} (hO : Ents.Ok (l.map Pr.ent) k (256 - m)) (hf : FineP l) (h1 : l'.length = l.length) (h2 : l.length ≤ cap' ∨ l = []) (h3 : l'.Perm l) (h4 : Rising (l'.map Pr.ent)) (h5 : PairsAt w ao' l') :
    Calls Try.prog 69 #[.slice ao' l.length cap', .int .i64 ((256 - m : Nat) : Int)] w fun e w' => e = .returned (.agg (brow (tree m (l.map Pr.ent)).dig)) ∧ Adds w w' := by
  rw [← tree_perm m (h3.map Pr.ent)]
  rcases h2 with h2 | h2
  · have hO' : Ents.Ok (l'.map Pr.ent) k (256 - m) := ⟨((h3.map Pr.ent).map Prod.fst).nodup_iff.2 hO.nodup, fun p hp => hO.len p ((h3.map Pr.ent).mem_iff.1 hp), fun p hp => hO.pre p ((h3.map Pr.ent).mem_iff.1 hp)⟩
    have := root_ok m hm cap' (k := k) h5 (by omega) (by rw [h1]; exact hf.1) hO' h4 (fun x hx => hf.2.1 x (h3.mem_iff.1 hx))
    rw [h1] at this
    exact this
  · subst h2
    have : l' = [] := List.eq_nil_of_length_eq_zero (by simpa using h1)
    subst this
    rw [List.map_nil, tree_nil]
    exact root_none ao' cap' _ w
set_option maxRecDepth 100000 in
theorem rootAt_deep {w : World} {ao : Option Addr} {l : List Pr} (cap : Nat) (h : PairsAt w ao l) (hfp : FineP l) (m : Nat) (hm : m ≤ 256) {k : List UInt8} (hO : Ents.Ok (l.map Pr.ent) k (256 - m)) :
    Calls Try.prog 27 #[.slice ao l.length cap, .int .i64 ((256 - m : Nat) : Int)] w fun e w' => e = .returned (.tuple #[.agg (brow (tree m (l.map Pr.ent)).dig), .int .i64 0]) ∧ Adds w w' := by
  have HO' := Lib.hid hO
  have HFP := Lib.hid hfp
  obtain ⟨d, hd⟩ : ∃ d, d = 256 - m := ⟨_, rfl⟩
  have HD := Lib.hid hd
  have HMM := Lib.hid hm
  have hd256 : d ≤ 256 := by omega
  have hdd0 : decide ((d : Int) < 0) = false := decide_eq_false (by omega)
  have hdd1 : decide ((256 : Int) < (d : Int)) = false := decide_eq_false (by omega)
  rw [← hd]
  clear hO hfp hd hm
  obtain ⟨Z, hZ⟩ : ∃ Z, Z = brow (List.replicate 32 0) := ⟨_, rfl⟩
  have hzh := zeroH
  have hzb := hash_built
  rw [← hZ] at hzh hzb
  have hZs : Z.size = 32 := by rw [hZ]; rfl
  have hz1 : ∀ v ∈ Z.toList, v.oneCell' = true := by rw [hZ]; exact brow_one _
  have HZ := Lib.hid (And.intro hzh (And.intro hZs (And.intro hzb (And.intro hz1 hZ))))
  have hw1 : Adds w (w.alloc (.cells Z 66)) := (Ch.refl _ _).alloc _
  have hso := sorted_ok cap (h.keep hw1 (fun _ h => h.elim))
  obtain ⟨len, hlen⟩ : ∃ len, len = l.length := ⟨_, rfl⟩
  rw [← hlen] at hso ⊢
  have HSO := Lib.hid hso
  have W1 := Lib.hid hw1
  have HL := Lib.hid hlen
  clear hzh hZs hzb hz1 hZ h hso hw1 hlen
  go_enter Try.func27, Try.ntmps27
  go_wp2_with (first
    | fail
    | ((with_reducible show wpList _ _ _ (⟨_, .alloc 66, _, _, _, _⟩ :: _) _ _); refine wpList_alloc_is rfl 66 rfl (.agg Z) HZ.out.1 ?_; dsimp only [Value.cells]; try simp only [World.size_alloc]))
  refine HSO.out.mono ?_; rintro e w2 ⟨a2, v, c, rfl, hcv, hc, hy⟩
  have A2 := Lib.hid (And.intro (W1.out.trans a2 (fun _ h => h.elim)) (a2.row (heap_alloc_new w (.cells Z 66)) id))
  clear a2 HSO
  have hc0 : c = 0 := hc.2 HFP.out
  subst hc0
  obtain ⟨ao', cap', l', rfl, s1, s2, s3, s4, s5⟩ := hy rfl
  have hf := hc.1 rfl
  have hrt := fun w3 (a : Adds w2 w3) => rootSorted_deep HMM.out HO'.out hf (by rw [s1, HL.out]) (by rw [← HL.out]; exact s2) s3 s4 (s5.keep a (fun _ h => h.elim))
  obtain ⟨O, hO⟩ : ∃ O, O = brow (tree m (l.map Pr.ent)).dig := ⟨_, rfl⟩
  have hos : O.size = 32 := by rw [hO, brow_size]; exact Tr.dig_length _
  have ho1 := brow_one (tree m (l.map Pr.ent)).dig
  rw [← hO] at ho1 hrt
  rw [← HL.out, ← HD.out] at hrt
  have HO := Lib.hid (And.intro hO (And.intro hos ho1))
  have HR := Lib.hid hrt
  have HF := Lib.hid hf
  have HS := Lib.hid (And.intro s1 s5)
  have HS3 := Lib.hid s3
  clear hcv hc hy hf hrt hO hos ho1 s1 s2 s3 s4 s5
  go_wp2_with fail
  have fin : ∀ w3 w4 : World, Adds w w3 → w3.heap[w.heap.size]? = some (.cells Z 66 (0, 0)) → Adds w3 w4 → (Ending.returned (.tuple #[.agg O, .int .i64 0]) : Ending) = .returned (.tuple #[.agg (brow (tree m (l.map Pr.ent)).dig), .int .i64 0]) ∧ Adds w (w4.setRow w.heap.size O) := fun w3 w4 a3 z3 a4 =>
    ⟨by rw [HO.out.1], (a3.trans a4 (fun _ h => h.elim)).setRow (.inr (Nat.le_refl _)) _⟩
  have FIN := Lib.hid fin
  clear fin
  by_cases h1 : 1 < len
  · have h1' : (1 : Int) < (len : Int) := by omega
    have hd1 : decide ((1 : Int) < (len : Int)) = true := decide_eq_true h1'
    obtain ⟨j, hj⟩ : ∃ j : Nat, j = len - 1 := ⟨_, rfl⟩
    have hw1 : wrap64 ((len : Int) - 1) = (j : Int) := by have := HF.out.1; have := HL.out; unfold wrap64; omega
    have hjl : j < len := by omega
    have hjl' : (j : Int) < (len : Int) := by omega
    have h0l : 0 < len := by omega
    have h0l' : (0 : Int) < (len : Int) := by omega
    have hjs : j < l'.length := by have := HS.out.1; omega
    obtain ⟨x, hx⟩ : ∃ x, l'[0]? = some x := ⟨_, List.getElem?_eq_getElem (by omega)⟩
    obtain ⟨y, hy⟩ : ∃ y, l'[j]? = some y := ⟨_, List.getElem?_eq_getElem hjs⟩
    obtain ⟨g0, off, rfl, hp⟩ := HS.out.2.2 0 x hx
    obtain ⟨g1, off1, e1, hq⟩ := HS.out.2.2 j y hy
    injection e1 with e1
    injection e1 with ea eb
    subst ea eb
    have gx := HS.out.2.1 x (List.mem_of_getElem? hx)
    have gy := HS.out.2.1 y (List.mem_of_getElem? hy)
    obtain ⟨cur, ty, fr, c1, c2, c3⟩ := hp
    obtain ⟨cur', ty', fr', d1, d2, d3⟩ := hq
    rw [c1] at d1
    injection d1 with d1
    injection d1 with da db dc
    subst da db dc
    rw [Pr.size gx.key, Nat.zero_mul, Nat.add_zero] at c2 c3
    rw [Pr.size gy.key] at d2 d3
    obtain ⟨kx, _⟩ := pair_parts gx.key c3
    obtain ⟨ky, _⟩ := pair_parts gy.key d3
    have hcm := fun w3 => Common_ok x.key y.key gx.key gy.key w3
    obtain ⟨KX, hKX⟩ : ∃ K, K = brow x.key := ⟨_, rfl⟩
    obtain ⟨KY, hKY⟩ : ∃ K, K = brow y.key := ⟨_, rfl⟩
    rw [← hKX] at kx hcm
    rw [← hKY] at ky hcm
    obtain ⟨cm, hcmv⟩ : ∃ cm, cm = common x.key y.key := ⟨_, rfl⟩
    rw [← hcmv] at hcm
    have hneg : decide ((cm : Int) < (d : Int)) = false := decide_eq_false (by
      have hx1 := HO'.out.pre x.ent ((HS3.out.map Pr.ent).mem_iff.1 (List.mem_map.2 ⟨x, List.mem_of_getElem? hx, rfl⟩))
      have hy1 := HO'.out.pre y.ent ((HS3.out.map Pr.ent).mem_iff.1 (List.mem_map.2 ⟨y, List.mem_of_getElem? hy, rfl⟩))
      rw [← HD.out] at hx1 hy1
      have := le_common gx.key gy.key hd256 (Pre.trans hx1 (Pre.symm hy1))
      omega)
    have hnegn : decide (cm < d) = false := by simpa using hneg
    have HC := Lib.hid (And.intro c1 (And.intro c2 (And.intro d2 (And.intro kx ky))))
    have HCM := Lib.hid hcm
    clear hj hjs hx hy HS gx gy c1 c2 c3 d2 d3 kx ky hKX hKY hcm hcmv
    refine wp_region_plan (fun w0 => w0.heap[g0]? = some (.cells cur ty fr)) 19 [(0, false), (1, false), (2, false), (3, false), (4, false), (5, false), (6, false), (7, false), (8, false), (9, false), (10, false), (11, false), (12, false), (13, false), (14, false), (16, false), (15, true), (17, false), (18, false)] (by kernel_rfl) (by kernel_rfl) ?_ ?_
    · exact HC.out.1
    iterate 2
      refine plan_look rfl rfl (fun w0 hS => (by clear hS; go_simp; try rfl)) ?_
      simp only [Act.put, List.setIfInBounds_toArray, List.set_cons_succ, List.set_cons_zero]
    iterate 2
      refine plan_look (v := .bool true) rfl rfl (fun w0 hS => (by clear hS; go_simp; try rfl)) ?_
      simp only [Act.put, List.setIfInBounds_toArray, List.set_cons_succ, List.set_cons_zero]
    iterate 3
      refine plan_look rfl rfl (fun w0 hS => (by clear hS; go_simp; try rfl)) ?_
      simp only [Act.put, List.setIfInBounds_toArray, List.set_cons_succ, List.set_cons_zero]
    refine plan_gload_part (cur := cur) (t := ty) (fr := fr) rfl rfl 23 _ rfl g0 off 32 rfl (fun w0 hS => hS) Try.underlying23 rfl sizeP (by have := HC.out.2.1; omega) KX HC.out.2.2.2.1 ?_
    simp only [Act.put, List.setIfInBounds_toArray, List.set_cons_succ, List.set_cons_zero]
    iterate 3
      refine plan_look rfl rfl (fun w0 hS => (by clear hS; go_simp; try rfl)) ?_
      simp only [Act.put, List.setIfInBounds_toArray, List.set_cons_succ, List.set_cons_zero]
    refine plan_look (v := .int .i64 (j : Int)) rfl rfl (fun w0 hS => (by clear hS; go_simp; exact (IntWalk.i64_left _).trans hw1)) ?_
    simp only [Act.put, List.setIfInBounds_toArray, List.set_cons_succ, List.set_cons_zero]
    iterate 2
      refine plan_look rfl rfl (fun w0 hS => (by clear hS; go_simp; try rfl)) ?_
      simp only [Act.put, List.setIfInBounds_toArray, List.set_cons_succ, List.set_cons_zero]
    refine plan_gload_part (cur := cur) (t := ty) (fr := fr) rfl rfl 23 _ rfl g0 (off + j * 33) 32 rfl (fun w0 hS => hS) Try.underlying23 rfl sizeP (by have := HC.out.2.2.1; omega) KY HC.out.2.2.2.2 ?_
    simp only [Act.put, List.setIfInBounds_toArray, List.set_cons_succ, List.set_cons_zero]
    refine plan_look rfl rfl (fun w0 hS => (by clear hS; go_simp; try rfl)) ?_
    simp only [Act.put, List.setIfInBounds_toArray, List.set_cons_succ, List.set_cons_zero]
    refine plan_do rfl ?_
    go_wp2_with fail
    refine (HCM.out _).mono ?_; rintro e w3 ⟨rfl, a3⟩
    have A3 := Lib.hid (And.intro (A2.out.1.drew.trans a3 (fun _ h => h.elim)) (And.intro (a3.row (row_drew A2.out.2) id) ((Ch.refl (fun _ => False) w2).drew.trans a3 (fun _ h => h.elim))))
    have S3 := Lib.hid (a3.row (row_drew HC.out.1) id)
    clear a3
    dsimp only
    go_step
    refine wpList_nil ?_
    change _ ∧ _
    refine ⟨S3.out, ?_⟩
    iterate 2
      refine plan_look (v := .bool false) rfl rfl (fun w0 hS => (by clear hS; go_simp; try rfl)) ?_
      simp only [Act.put, List.setIfInBounds_toArray, List.set_cons_succ, List.set_cons_zero]
    refine plan_end ?_; simp only [List.drop_succ_cons, List.drop_zero]
    go_wp2
    refine NoPanic.normal ?_
    go_wp2_with fail
    refine (HR.out _ A3.out.2.2).mono ?_; rintro e w4 ⟨rfl, a4⟩
    have A4 := Lib.hid (And.intro a4 (a4.row A3.out.2.1 id))
    clear a4
    go_wp2_with (first
      | fail
      | ((with_reducible show wpList _ _ _ (⟨_, .store 66 _ _, _, _, _, _⟩ :: _) _ _); refine wpList_store_part rfl 66 _ _ rfl w.heap.size 0 O rfl rfl A4.out.2 (by rw [sizeH, HO.out.2.1]) (by rw [HO.out.2.1, HZ.out.2.1]; omega) HO.out.2.2 O (by rw [splice_all _ _ (by rw [Array.length_toList, Array.length_toList, HO.out.2.1, HZ.out.2.1])]) ?_))
    exact bodyPost_ret_cell (p := 4) (u := 5) rfl rfl (row_setRow_same A4.out.2 _) Try.underlying66 rfl (by rw [sizeH, HO.out.2.1]) rfl (FIN.out _ _ A3.out.1 A3.out.2.1 A4.out.1)
  · have hd1 : decide ((1 : Int) < (len : Int)) = false := decide_eq_false (by omega)
    have hd1' : decide (1 < len) = false := decide_eq_false h1
    clear HS
    refine wp_region_plan (fun _ => True) 19 [(0, false), (1, false), (2, false), (3, false), (4, false), (5, false), (6, false), (7, false), (8, false), (9, false), (10, false), (11, false), (12, false), (13, false), (14, false), (16, false), (15, true), (17, false), (18, false)] (by kernel_rfl) (by kernel_rfl) ?_ ?_
    · trivial
    iterate 2
      refine plan_look rfl rfl (fun w0 hS => (by clear hS; go_simp; try rfl)) ?_
      simp only [Act.put, List.setIfInBounds_toArray, List.set_cons_succ, List.set_cons_zero]
    iterate 2
      refine plan_look (v := .bool false) rfl rfl (fun w0 hS => (by clear hS; go_simp; try rfl)) ?_
      simp only [Act.put, List.setIfInBounds_toArray, List.set_cons_succ, List.set_cons_zero]
    iterate 12
      refine plan_skip rfl rfl ?_
      simp only [Act.put, List.setIfInBounds_toArray, List.set_cons_succ, List.set_cons_zero]
    refine plan_do rfl ?_
    go_wp2
    refine ⟨trivial, ?_⟩
    refine plan_skip rfl rfl ?_
    simp only [Act.put, List.setIfInBounds_toArray, List.set_cons_succ, List.set_cons_zero]
    refine plan_look (v := .bool false) rfl rfl (fun w0 hS => (by clear hS; go_simp; try rfl)) ?_
    simp only [Act.put, List.setIfInBounds_toArray, List.set_cons_succ, List.set_cons_zero]
    refine plan_end ?_; simp only [List.drop_succ_cons, List.drop_zero]
    go_wp2
    refine NoPanic.normal ?_
    go_wp2_with fail
    refine (HR.out _ (Ch.refl _ _).drew).mono ?_; rintro e w4 ⟨rfl, a4⟩
    have A4 := Lib.hid (And.intro a4 (a4.row (row_drew A2.out.2) id))
    clear a4
    go_wp2_with (first
      | fail
      | ((with_reducible show wpList _ _ _ (⟨_, .store 66 _ _, _, _, _, _⟩ :: _) _ _); refine wpList_store_part rfl 66 _ _ rfl w.heap.size 0 O rfl rfl A4.out.2 (by rw [sizeH, HO.out.2.1]) (by rw [HO.out.2.1, HZ.out.2.1]; omega) HO.out.2.2 O (by rw [splice_all _ _ (by rw [Array.length_toList, Array.length_toList, HO.out.2.1, HZ.out.2.1])]) ?_))
    exact bodyPost_ret_cell (p := 4) (u := 5) rfl rfl (row_setRow_same A4.out.2 _) Try.underlying66 rfl (by rw [sizeH, HO.out.2.1]) rfl (FIN.out _ _ A2.out.1.drew (row_drew A2.out.2) A4.out.1)
end Go.Proofs.Ytfllneenonhonaa.Law9
