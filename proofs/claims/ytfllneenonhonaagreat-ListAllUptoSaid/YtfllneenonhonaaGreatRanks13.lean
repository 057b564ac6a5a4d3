/- ListRanks: ranks, counts, what lies between: the walk. -/
import Derived.Test.YtfllneenonhonaaGreatRanksP
import Derived.Test.YtfllneenonhonaaGreatList3
import Derived.Test.YtfllneenonhonaaGreatPlanG
namespace Go.Proofs.YtfllneenonhonaaGreat.Law13
open Go Go.RowKit Go.Shelf Go.Sort Go.Proofs.YtfllneenonhonaaGreat Go.Proofs.YtfllneenonhonaaGreat.ShaW Go.Proofs.YtfllneenonhonaaGreat.Path Go.Proofs.YtfllneenonhonaaGreat.Store Go.Proofs.YtfllneenonhonaaGreat.Law9
set_option maxHeartbeats 12800000
set_option linter.unusedVariables false
attribute [local go_sem] Oper.semAt_some

theorem at_act {P : Program} {C : Code} {Q : Exit → Act → World → Prop} {a : Act} {w : World} (h : ∀ a0, a0 = a → C.wp P Q a0 w) : C.wp P Q a w := h a rfl
/-- How many have come stands in the cell. -/
def RkI (w0 : World) (B m : Nat) (W : World) : Prop := Ch (fun k => k = B) w0 W ∧ W.heap[B]? = some (.cells #[.int .i64 (m : Nat)] 3 (0, 0))
theorem RkI.own (w0 : World) (B : Nat) (hB : w0.heap.size ≤ B) {n : Nat} (hn : n = B + 1) : OwnFrom n (fun (pre : List Pr) W => RkI w0 B pre.length W) := fun s W W' row hs hg hr =>
  ⟨hs.1.grown hg (fun k hk => .inr (by have := (hr k hk).1; omega)), (hg.block _ (row_lt hs.2) (fun e => by have := (hr _ e.symm).1; omega)).trans hs.2⟩
theorem RkI.put {w0 W : World} {B m l : Nat} {o o' : Obj} (h : RkI w0 B m W) (hl : B < l) (hB : w0.heap.size ≤ B) (hW : W.heap[l]? = some o) : RkI w0 B m (W.putObj l o') :=
  ⟨h.1.grown (grownBy_putObj' _ l o') (fun k hk => .inr (by cases hk; omega)), (World.putObj_heap_other (by omega)).trans h.2⟩
set_option maxRecDepth 100000 in
theorem ranks_law {w : World} {ao : Option Addr} {l : List Pr} (cap : Nat) (hl : PairsAt w ao l) (a b : List UInt8) (ha : a.length = 32) (hb : b.length = 32) :
    Calls Tryz.prog 6 #[.slice ao l.length cap, .agg (brow a), .agg (brow b)] w fun e w' => e = .returned (.bool true) ∧ Adds w w' := by
  obtain ⟨K1, hK1⟩ : ∃ K, K = brow a := ⟨_, rfl⟩
  obtain ⟨K2, hK2⟩ : ∃ K, K = brow b := ⟨_, rfl⟩
  have hs1 : K1.size = 32 := by rw [hK1, brow_size]; exact ha
  have hs2 : K2.size = 32 := by rw [hK2, brow_size]; exact hb
  rw [← hK1, ← hK2]
  obtain ⟨n, hn⟩ : ∃ n, n = l.length := ⟨_, rfl⟩
  obtain ⟨Z, hZ⟩ : ∃ Z, Z = brow (List.replicate 32 0) := ⟨_, rfl⟩
  have hzh := zeroP
  have hzd := zeroH
  rw [← hZ] at hzh hzd
  have hZs : Z.size = 32 := by rw [hZ]; rfl
  have HZ := Lib.hid (And.intro hzh (And.intro hzd hZs))
  have HK := Lib.hid (And.intro hs1 (And.intro hs2 (And.intro hK1 hK2)))
  have HAB := Lib.hid (And.intro ha hb)
  obtain ⟨wb, hwb⟩ : ∃ wb, wb = (w.alloc (.cells K1 24)).alloc (.cells K2 24) := ⟨_, rfl⟩
  have h1 : wb.heap[w.heap.size]? = some (.cells K1 24 (0, 0)) := by rw [hwb]; exact row_alloc (heap_alloc_new _ _) _
  have h2 : wb.heap[w.heap.size + 1]? = some (.cells K2 24 (0, 0)) := by
    rw [hwb]
    have := heap_alloc_new (w.alloc (.cells K1 24)) (.cells K2 24)
    simpa using this
  have HW := Lib.hid (And.intro ((by rw [hwb]; exact ((Ch.refl _ _).alloc _).alloc _ : Adds w wb)) (And.intro h1 h2))
  have HWB := Lib.hid hwb
  have HN := Lib.hid hn
  rw [← hn]
  have HL := Lib.hid hl
  clear hK1 hK2 hs1 hs2 hn hZ hzh hzd hZs ha hb h1 h2 hwb hl
  refine (callsIn_wide (n := 4)).1 ?_
  refine callsIn_of_wp_marks Tryz.func6 rfl trivial ?_ rfl
  refine wpIn_wide.2 ?_
  simp only [Tryz.ntmps6, List.size_toArray, List.length_cons, List.length_nil, Nat.reduceAdd, Nat.reduceSub, Array.replicate_succ, Array.replicate_zero, List.push_toArray, List.append_toArray, List.nil_append, List.cons_append]
  go_wp2_with fail
  rw [← HWB.out]
  clear HWB
  refine (awake_ok wb).mono ?_; rintro e w1 ⟨rfl, a1⟩
  have A1 := Lib.hid (And.intro (HW.out.1.trans a1 (fun _ h => h.elim)) (And.intro (a1.row HW.out.2.1 id) (a1.row HW.out.2.2 id)))
  clear a1 HW
  have hrt := Law9.Root_ok cap (HL.out.keep A1.out.1 (fun _ h => h.elim))
  rw [← HN.out] at hrt
  have HRT := Lib.hid hrt
  clear hrt
  go_wp2_with fail
  refine HRT.out.mono ?_; rintro e w2 ⟨a2, hb, c, rfl, hb1, hfi, _⟩
  have A2 := Lib.hid (And.intro (A1.out.1.trans a2 (fun _ h => h.elim)) (And.intro (a2.row A1.out.2.1 id) (a2.row A1.out.2.2 id)))
  clear a2 HRT A1
  obtain ⟨K3, hK3⟩ : ∃ K, K = brow hb := ⟨_, rfl⟩
  have HK3 := Lib.hid (And.intro (by rw [hK3, brow_size, hb1] : K3.size = 32) (by rw [hK3]; exact brow_one _ : ∀ v ∈ K3.toList, v.oneCell' = true))
  rw [← hK3]
  have HFI := Lib.hid hfi
  clear hb1 hK3 hfi
  go_upto_region 3 with (first
    | fail
    | ((with_reducible show wpList _ _ _ (⟨_, .alloc 72, _, _, _, _⟩ :: _) _ _); refine wpList_alloc_is rfl 72 rfl (.agg Z) HZ.out.2.1 ?_; dsimp only [Value.cells]; try simp only [World.size_alloc])
    | ((with_reducible show wpList _ _ _ (⟨_, .store 72 _ _, _, _, _, _⟩ :: _) _ _); refine wpList_store_part rfl 72 _ _ rfl w2.heap.size 0 K3 rfl rfl (heap_alloc_new _ _) (by rw [sizeH, HK3.out.1]) (by rw [HK3.out.1, HZ.out.2.2]; omega) HK3.out.2 K3 (by rw [splice_all _ _ (by rw [Array.length_toList, Array.length_toList, HK3.out.1, HZ.out.2.2])]) ?_))
  obtain ⟨w3, hw3⟩ : ∃ w3, w3 = (w2.alloc (.cells Z 72)).setRow w2.heap.size K3 := ⟨_, rfl⟩
  rw [← hw3]
  have a3 : Adds w2 w3 := by rw [hw3]; exact ((Ch.refl _ _).alloc _).setRow (.inr (Nat.le_refl _)) _
  have A3 := Lib.hid (And.intro (A2.out.1.trans a3 (fun _ h => h.elim)) (And.intro (a3.row A2.out.2.1 id) (a3.row A2.out.2.2 id)))
  clear hw3 a3 A2
  by_cases hgo : n ≤ 16 ∧ c = 0
  · obtain ⟨hn16, rfl⟩ := hgo
    have hfine := HFI.out.1 rfl
    have hf := filled_ok cap (HL.out.keep A3.out.1 (fun _ h => h.elim)) (by rw [← HN.out]; omega) hfine.2.1
    rw [← HN.out] at hf
    have HF := Lib.hid (And.intro hfine hn16)
    have HFO := Lib.hid hf
    have d16 : decide ((16 : Int) < (n : Int)) = false := decide_eq_false (by omega)
    clear hfine hf HFI hn16
    go_wp2_with fail
    refine HFO.out.mono ?_; rintro e w4 ⟨s, σ, root, rfl, h4⟩
    have hDb : Db σ root (l.map Pr.ent) := h4.db.perm (entsOf_perm HF.out.1.2.2)
    obtain ⟨T, hT⟩ : ∃ T, T = tree 256 (l.map Pr.ent) := ⟨_, rfl⟩
    have hrep := hDb.rep
    rw [← hT] at hrep
    have hlv : T.leaves = n := by rw [hT, ← Tr.ents_length, hDb.ents.length_eq, List.length_map, HN.out]
    obtain ⟨F, hF⟩ := h4.own.at
    have HG := Lib.hid (And.intro hDb.good (And.intro hrep (rootErr_hand hDb.hand)))
    have HA := Lib.hid hF
    have HV := Lib.hid hlv
    have HVL := Lib.hid (fun e he => ((hrep.ents hDb.good.fit).1 e he).2)
    have A4 := Lib.hid (And.intro (A3.out.1.trans h4.own.world (fun _ h => h.elim)) (And.intro (h4.own.world.row A3.out.2.1 id) (h4.own.world.row A3.out.2.2 id)))
    clear hDb hT hrep hlv hF h4 HFO A3
    have g0 := HA.out
    have hra := Rank_ok g0 HG.out.1 HG.out.2.1 HG.out.2.2 a HAB.out.1
    rw [← HK.out.2.2.1] at hra
    have hle := rank_le T a
    have hle2 := rank_le T b
    have HRA := Lib.hid hra
    have HLE := Lib.hid (And.intro hle hle2)
    have HSAY := Lib.hid (ranks_say T HAB.out.1 HAB.out.2 rfl rfl rfl rfl)
    clear g0 hra hle hle2
    go_wp2_with (first
      | fail
      | ((with_reducible show wpList _ _ _ (⟨_, .load 24 _, _, _, _, _⟩ :: _) _ _); refine wpList_load_part rfl 24 _ rfl w.heap.size 0 rfl A4.out.2.1 Tryz.underlying24 rfl sizeP (by rw [HK.out.1]; omega) K1 (by have := HK.out.1; simp [← this]) ?_))
    refine HRA.out.mono ?_; rintro e w5 ⟨rfl, a5⟩
    have A5 := Lib.hid (And.intro (A4.out.1.trans a5 (fun _ h => h.elim)) (And.intro (a5.row A4.out.2.1 id) (a5.row A4.out.2.2 id)))
    have HA5 := Lib.hid (HA.out.adds a5)
    have hrb := Rank_ok HA5.out HG.out.1 HG.out.2.1 HG.out.2.2 b HAB.out.2
    rw [← HK.out.2.2.2] at hrb
    have HRB := Lib.hid hrb
    clear hrb a5 HRA A4 HA
    go_wp2_with (first
      | fail
      | ((with_reducible show wpList _ _ _ (⟨_, .load 24 _, _, _, _, _⟩ :: _) _ _); refine wpList_load_part rfl 24 _ rfl (w.heap.size + 1) 0 rfl A5.out.2.2 Tryz.underlying24 rfl sizeP (by rw [HK.out.2.1]; omega) K2 (by have := HK.out.2.1; simp [← this]) ?_))
    refine HRB.out.mono ?_; rintro e w6 ⟨rfl, a6⟩
    have A6 := Lib.hid (And.intro (A5.out.1.trans a6 (fun _ h => h.elim)) (And.intro (a6.row A5.out.2.1 id) (a6.row A5.out.2.2 id)))
    have HA6 := Lib.hid (HA5.out.adds a6)
    have hbt := Between_ok HA6.out HG.out.1 HG.out.2.1 HG.out.2.2 a b HAB.out.1 HAB.out.2
    rw [← HK.out.2.2.1, ← HK.out.2.2.2] at hbt
    have HBT := Lib.hid hbt
    clear hbt a6 HRB A5 HA5
    go_wp2_with (first
      | fail
      | ((with_reducible show wpList _ _ _ (⟨_, .load 24 _, _, _, _, _⟩ :: _) _ _); refine wpList_load_part rfl 24 _ rfl w.heap.size 0 rfl A6.out.2.1 Tryz.underlying24 rfl sizeP (by rw [HK.out.1]; omega) K1 (by have := HK.out.1; simp [← this]) ?_)
      | ((with_reducible show wpList _ _ _ (⟨_, .load 24 _, _, _, _, _⟩ :: _) _ _); refine wpList_load_part rfl 24 _ rfl (w.heap.size + 1) 0 rfl A6.out.2.2 Tryz.underlying24 rfl sizeP (by rw [HK.out.2.1]; omega) K2 (by have := HK.out.2.1; simp [← this]) ?_))
    refine HBT.out.mono ?_; rintro e w7 ⟨rfl, a7⟩
    have A7 := Lib.hid (And.intro (A6.out.1.trans a7 (fun _ h => h.elim)) (And.intro (a7.row A6.out.2.1 id) (a7.row A6.out.2.2 id)))
    have HA7 := Lib.hid (HA6.out.adds a7)
    have hct := Count_ok' HA7.out HG.out.1 HG.out.2.1 HG.out.2.2
    rw [HV.out] at hct
    have HCT := Lib.hid hct
    clear hct a7 HBT A6 HA6
    go_wp2_with fail
    refine HCT.out.mono ?_; rintro e w8 ⟨rfl, a8⟩
    have A8 := Lib.hid (And.intro (A7.out.1.trans a8 (fun _ h => h.elim)) (And.intro (a8.row A7.out.2.1 id) (a8.row A7.out.2.2 id)))
    have HA8 := Lib.hid (HA7.out.adds a8)
    have hcm := cmp_adds a b HAB.out.1 HAB.out.2
    rw [← HK.out.2.2.1, ← HK.out.2.2.2] at hcm
    have HCM := Lib.hid hcm
    clear hcm a8 HCT A7 HA7
    go_wp2_with (first
      | fail
      | ((with_reducible show wpList _ _ _ (⟨_, .load 24 _, _, _, _, _⟩ :: _) _ _); refine wpList_load_part rfl 24 _ rfl w.heap.size 0 rfl A8.out.2.1 Tryz.underlying24 rfl sizeP (by rw [HK.out.1]; omega) K1 (by have := HK.out.1; simp [← this]) ?_)
      | ((with_reducible show wpList _ _ _ (⟨_, .load 24 _, _, _, _, _⟩ :: _) _ _); refine wpList_load_part rfl 24 _ rfl (w.heap.size + 1) 0 rfl A8.out.2.2 Tryz.underlying24 rfl sizeP (by rw [HK.out.2.1]; omega) K2 (by have := HK.out.2.1; simp [← this]) ?_))
    refine (HCM.out _).mono ?_; rintro e w9 ⟨rfl, a9⟩
    have A9 := Lib.hid (And.intro (A8.out.1.trans a9 (fun _ h => h.elim)) (And.intro (a9.row A8.out.2.1 id) (a9.row A8.out.2.2 id)))
    have HA9 := Lib.hid (HA8.out.adds a9)
    clear a9 A8 HA8
    go_upto_region 13 with fail
    try simp only [Act.put]
    go_cut [13, 15, 17, 21, 131] from 28 (fun s13 s15 s17 s21 s131 wx => s13 = .int .i64 (T.rank a : Nat) ∧ s15 = .int .i64 (T.rank b : Nat) ∧ s17 = .int .i64 (T.between a b) ∧ s21 = .int .i64 (Lib.compareBytes a b) ∧ s131 = .bool false ∧ wx = w9)
    case first =>
      rcases Int.lt_trichotomy (Lib.compareBytes a b) 0 with hc | hc | hc
      · have f1 : decide (Lib.compareBytes a b < 0) = true := decide_eq_true hc
        have f2 : decide ((T.rank b : Int) < (T.rank a : Int)) = false := decide_eq_false (by have := HSAY.out.1 hc; omega)
        have f3 : decide (T.rank b < T.rank a) = false := decide_eq_false (by have := HSAY.out.1 hc; omega)
        have f4 : decide (0 < Lib.compareBytes a b) = false := decide_eq_false (by omega)
        have f5 : ¬ Lib.compareBytes a b = 0 := by omega
        have HC := Lib.hid hc
        clear hc
        go_wp2_with fail
        go_meet
        case rel => exact ⟨(by first | rfl | rw [HC.out] | (rw [HSAY.out.2.2.1 HC.out]) | (rw [(HSAY.out.2.1 HC.out).2])), (by first | rfl | rw [HC.out] | (rw [HSAY.out.2.2.1 HC.out]) | (rw [(HSAY.out.2.1 HC.out).2])), (by first | rfl | rw [HC.out] | (rw [HSAY.out.2.2.1 HC.out]) | (rw [(HSAY.out.2.1 HC.out).2])), (by first | rfl | rw [HC.out] | (rw [HSAY.out.2.2.1 HC.out]) | (rw [(HSAY.out.2.1 HC.out).2])), rfl, rfl⟩
      · have f1 : decide (Lib.compareBytes a b < 0) = false := decide_eq_false (by omega)
        have f2 : (T.rank a : Int) = (T.rank b : Int) := by have := HSAY.out.2.2.1 hc; omega
        have f4 : decide (0 < Lib.compareBytes a b) = false := decide_eq_false (by omega)
        have f5 : Lib.compareBytes a b = 0 := hc
        have HC := Lib.hid hc
        clear hc
        go_wp2_with fail
        go_meet
        case rel => exact ⟨(by first | rfl | rw [HC.out] | (rw [HSAY.out.2.2.1 HC.out]) | (rw [(HSAY.out.2.1 HC.out).2])), (by first | rfl | rw [HC.out] | (rw [HSAY.out.2.2.1 HC.out]) | (rw [(HSAY.out.2.1 HC.out).2])), (by first | rfl | rw [HC.out] | (rw [HSAY.out.2.2.1 HC.out]) | (rw [(HSAY.out.2.1 HC.out).2])), (by first | rfl | rw [HC.out] | (rw [HSAY.out.2.2.1 HC.out]) | (rw [(HSAY.out.2.1 HC.out).2])), rfl, rfl⟩
      · have f1 : decide (Lib.compareBytes a b < 0) = false := decide_eq_false (by omega)
        have f2 : decide ((T.rank a : Int) < (T.rank b : Int)) = false := decide_eq_false (by have := (HSAY.out.2.1 hc).1; omega)
        have f3 : decide (T.rank a < T.rank b) = false := decide_eq_false (by have := (HSAY.out.2.1 hc).1; omega)
        have f4 : decide (0 < Lib.compareBytes a b) = true := decide_eq_true hc
        have f5 : ¬ Lib.compareBytes a b = 0 := by omega
        have f6 : T.between a b = 0 := (HSAY.out.2.1 hc).2
        have HC := Lib.hid hc
        clear hc
        go_wp2_with fail
        go_meet
        case rel => exact ⟨(by first | rfl | rw [HC.out] | (rw [HSAY.out.2.2.1 HC.out]) | (rw [(HSAY.out.2.1 HC.out).2])), (by first | rfl | rw [HC.out] | (rw [HSAY.out.2.2.1 HC.out]) | (rw [(HSAY.out.2.1 HC.out).2])), (by first | rfl | rw [HC.out] | (rw [HSAY.out.2.2.1 HC.out]) | (rw [(HSAY.out.2.1 HC.out).2])), (by first | rfl | rw [HC.out] | (rw [HSAY.out.2.2.1 HC.out]) | (rw [(HSAY.out.2.1 HC.out).2])), rfl, rfl⟩
    case rest =>
      obtain ⟨rfl, rfl, rfl, rfl, rfl, h9⟩ := hcut
      rw [h9]
      clear h9
      iterate 6 go_step
      go_cut [22, 23, 24, 25] from 132 (fun _ _ _ _ wy => Adds w9 wy)
      case first =>
        have hnx := Next_ok b HAB.out.2 w9
        rw [← HK.out.2.2.2] at hnx
        obtain ⟨K4, hK4⟩ : ∃ K, K = brow (nextK b).1 := ⟨_, rfl⟩
        have HK4 := Lib.hid (And.intro (by rw [hK4, brow_size, nextK_length]; exact HAB.out.2 : K4.size = 32) (And.intro (by rw [hK4]; exact brow_one _ : ∀ v ∈ K4.toList, v.oneCell' = true) hK4))
        rw [← hK4] at hnx
        obtain ⟨mb, hmb⟩ : ∃ mb, mb = (nextK b).2 := ⟨_, rfl⟩
        rw [← hmb] at hnx
        have HMB := Lib.hid hmb
        have HNX := Lib.hid hnx
        clear hK4 hmb hnx
        go_wp2_with (first
          | fail
          | ((with_reducible show wpList _ _ _ (⟨_, .load 24 _, _, _, _, _⟩ :: _) _ _); refine wpList_load_part rfl 24 _ rfl (w.heap.size + 1) 0 rfl A9.out.2.2 Tryz.underlying24 rfl sizeP (by rw [HK.out.2.1]; omega) K2 (by have := HK.out.2.1; simp [← this]) ?_))
        refine HNX.out.mono ?_; rintro e w10 ⟨rfl, a10⟩
        have HX := Lib.hid (a10 : Adds w9 w10)
        clear a10 HNX
        go_upto_region 16 with (first
          | fail
          | ((with_reducible show wpList _ _ _ (⟨_, .alloc 24, _, _, _, _⟩ :: _) _ _); refine wpList_alloc_is rfl 24 rfl (.agg Z) HZ.out.1 ?_; dsimp only [Value.cells]; try simp only [World.size_alloc])
          | ((with_reducible show wpList _ _ _ (⟨_, .store 24 _ _, _, _, _, _⟩ :: _) _ _); refine wpList_store_part rfl 24 _ _ rfl w10.heap.size 0 K4 rfl rfl (heap_alloc_new _ _) (by rw [sizeP, HK4.out.1]) (by rw [HK4.out.1, HZ.out.2.2]; omega) HK4.out.2.1 K4 (by rw [splice_all _ _ (by rw [Array.length_toList, Array.length_toList, HK4.out.1, HZ.out.2.2])]) ?_))
        obtain ⟨w11, hw11⟩ : ∃ w11, w11 = (w10.alloc (.cells Z 24)).setRow w10.heap.size K4 := ⟨_, rfl⟩
        rw [← hw11]
        have a11 : Adds w10 w11 := by rw [hw11]; exact ((Ch.refl _ _).alloc _).setRow (.inr (Nat.le_refl _)) _
        have r11 : w11.heap[w10.heap.size]? = some (.cells K4 24 (0, 0)) := by rw [hw11]; exact row_setRow_same (heap_alloc_new _ _) _
        have a911 := HX.out.trans a11 (fun _ h => h.elim)
        have A11 := Lib.hid (And.intro a911 (And.intro r11 (And.intro (a911.row A9.out.2.1 id) (a911.row A9.out.2.2 id))))
        clear hw11 a11 r11 a911 HX
        cases mb with
        | false =>
          go_wp2_with fail
          go_meet
          case rel => exact A11.out.1
        | true =>
          go_wp2_with (first
            | fail
            | ((with_reducible show wpList _ _ _ (⟨_, .load 24 _, _, _, _, _⟩ :: _) _ _); refine wpList_gload_part (by first | rfl | (simp [Region.wanted]; done)) 24 _ rfl w.heap.size 0 rfl A11.out.2.2.1 Tryz.underlying24 rfl sizeP (by rw [HK.out.1]; omega) K1 (by have := HK.out.1; simp [← this]) ?_)
            | ((with_reducible show wpList _ _ _ (⟨_, .load 24 _, _, _, _, _⟩ :: _) _ _); refine wpList_gload_part (by first | rfl | (simp [Region.wanted]; done)) 24 _ rfl (w.heap.size + 1) 0 rfl A11.out.2.2.2 Tryz.underlying24 rfl sizeP (by rw [HK.out.2.1]; omega) K2 (by have := HK.out.2.1; simp [← this]) ?_))
          refine (HCM.out _).mono ?_; rintro e w12 ⟨rfl, a12⟩
          have HX := Lib.hid (And.intro (A11.out.1.trans a12 (fun _ h => h.elim)) (a12.row A11.out.2.1 id))
          have HA12 := Lib.hid (HA9.out.adds (A11.out.1.trans a12 (fun _ h => h.elim)))
          clear a12
          have hrn := Rank_ok HA12.out HG.out.1 HG.out.2.1 HG.out.2.2 (nextK b).1 (by rw [nextK_length]; exact HAB.out.2)
          rw [← HK4.out.2.2] at hrn
          have HRN := Lib.hid hrn
          clear hrn A11
          by_cases hc : Lib.compareBytes a b ≤ 0
          · have HC := Lib.hid (HSAY.out.2.2.2 hc HMB.out.symm)
            have g1 : decide (Lib.compareBytes a b ≤ 0) = true := decide_eq_true hc
            go_wp2_with (first
              | fail
              | ((with_reducible show wpList _ _ _ (⟨_, .load 24 _, _, _, _, _⟩ :: _) _ _); refine wpList_load_part rfl 24 _ rfl w10.heap.size 0 rfl HX.out.2 Tryz.underlying24 rfl sizeP (by rw [HK4.out.1]; omega) K4 (by have := HK4.out.1; simp [← this]) ?_))
            refine HRN.out.mono ?_; rintro e w13 ⟨rfl, a13⟩
            have HY := Lib.hid (HX.out.1.trans a13 (fun _ h => h.elim))
            have l1 := rank_le T (nextK b).1
            have l2 := HLE.out.1
            have hv := HV.out
            have l3 := HF.out.2
            have hw : wrap64 ((T.rank (nextK b).1 : Int) - (T.rank a : Int)) = T.between a b := by rw [HC.out]; unfold wrap64; omega
            clear a13 l1 l2 hv l3 HRN
            go_wp2_with fail
            go_meet
            case rel => exact HY.out
          · have g1 : decide (Lib.compareBytes a b ≤ 0) = false := decide_eq_false hc
            go_wp2_with fail
            go_meet
            case rel => exact HX.out.1
      case rest =>
        have A13 := Lib.hid (And.intro (A9.out.1.trans hcut (fun _ h => h.elim)) (And.intro (hcut.row A9.out.2.1 id) (hcut.row A9.out.2.2 id)))
        have HA13 := Lib.hid (HA9.out.adds hcut)
        clear hcut A9 HA9 HCM HSAY
        have hfr := From_ok HA13.out HG.out.1 HG.out.2.1 HG.out.2.2 a HAB.out.1
        rw [← HK.out.2.2.1] at hfr
        have HFR := Lib.hid hfr
        clear hfr
        go_wp2_with (first
          | fail
          | ((with_reducible show wpList _ _ _ (⟨_, .load 24 _, _, _, _, _⟩ :: _) _ _); refine wpList_load_part rfl 24 _ rfl w.heap.size 0 rfl A13.out.2.1 Tryz.underlying24 rfl sizeP (by rw [HK.out.1]; omega) K1 (by have := HK.out.1; simp [← this]) ?_))
        refine HFR.out.mono ?_; rintro e w14 ⟨q, rfl, hq, a14⟩
        obtain ⟨b0, v0, out, rfl, hbb, hrow, htold, hout, hvb, hxb⟩ := hq
        have A14 := Lib.hid (A13.out.1.trans a14 (fun _ h => h.elim))
        have holen : (out.length : Int) = (n : Int) - (T.rank a : Int) ∧ out.length ≤ 16 := by
          have h1 := congrArg List.length hout
          have h2 := rank_from T a
          rw [List.length_map] at h1
          have := HV.out; have := HF.out.2
          omega
        have hvo : ∀ x ∈ out, x.val.length ≤ 1024 := fun x hx => by
          have : Pr.ent x ∈ T.from a := by rw [← hout]; exact List.mem_map_of_mem hx
          exact HVL.out _ (List.mem_filter.1 this).1
        have HSEQ := Lib.hid (overSeq 3 (by omega) b0 _ v0 out w14 hrow (htold.base' (Nat.le_refl _)) (by omega) hvo)
        have HO := Lib.hid holen
        have hnil : ∀ (w : World), (Go.binOp BinOp.eql 44 (Value.func (Fn.func 94) #[] #[.pointer (some ⟨b0, 0, none⟩)]) Value.nilFunc).run Tryz.prog w = Result.ok (Value.bool false) w := fun w => by kernel_rfl
        clear hrow htold hout hvb hxb holen hvo hbb a14
        go_wp2_with fail
        obtain ⟨B, hB⟩ : ∃ B, B = w14.heap.size := ⟨_, rfl⟩
        obtain ⟨w15, hw15⟩ : ∃ w15, w15 = w14.alloc (.cells #[.int .i64 0] 3) := ⟨_, rfl⟩
        rw [← hw15, ← hB]
        have h15 : RkI w14 B 0 w15 := by
          rw [hw15, hB]
          exact ⟨(Ch.refl _ _).alloc _, heap_alloc_new _ _⟩
        have hs15 : w15.heap.size = B + 1 := by rw [hw15, hB]; simp
        have HB := Lib.hid (And.intro h15 (And.intro hs15 hB))
        clear hB hw15 h15 hs15 hnil
        refine at_act (fun A0 hA0 => ?_)
        have HA0 := Lib.hid hA0
        refine (wpIn_wide (n := 4)).1 ?_
        refine wpIn_rangeY (α := Pr) rfl (by omega) (gf := 94) (by rw [hA0]; rfl) trivial (enters_of Tryz.func94 (by kernel_rfl) rfl) HSEQ.out belowK_t (belowK_b (by have := HB.out.2; omega)) (HB.out.1.1.below (Nat.le_refl _) (fun k h => by have := HB.out.2.2; omega)) (fun _ => rfl)
          (fun pre W => RkI w14 B pre.length W) (fun _ _ _ => False)
          (RkI.own _ _ (by have := HB.out.2.2; omega) HB.out.2.1) (fun c => fun s W W' row hs hg hr => hs) HB.out.1
          (fun pre x a W => (∃ k v, a = { tmps := (A0.tmps.setIfInBounds 167 k).setIfInBounds 168 v, defers := [] }) ∧ RkI w14 B pre.length W)
          (fun pre x a W l o o' h hl hW ho => ⟨h.1, h.2.put (by have := HB.out.2.1; omega) (by have := HB.out.2.2; omega) hW⟩) ?assign ?body ?done ?stop
        case assign =>
          intro l0 pre x W hI hY hlt
          rw [zip_two]
          gi_wp2_with fail
          exact ⟨KeepsOthers.refl _, Below.refl _ _, ⟨_, _, rfl⟩, hI⟩
        case body =>
          rintro l0 pre x a W ⟨⟨k, v, rfl⟩, hI⟩ hlt
          obtain ⟨m, hm⟩ : ∃ m, m = pre.length := ⟨_, rfl⟩
          rw [← hm] at hI
          have cn := row_cell hI.2 (i := 0) rfl
          have fn := row_free hI.2 0
          have hm16 : m ≤ 16 := by have := HO.out.2; omega
          have hw1 : wrap64 ((m : Int) + 1) = (m : Int) + 1 := by unfold wrap64; omega
          have rs := row_set_same hI.2 0 (.int .i64 ((m : Int) + 1))
          have HI := Lib.hid (And.intro hI (And.intro hm rs))
          rw [hA0]
          clear hI hm hlt hm16 rs hA0
          simp only [List.setIfInBounds_toArray, List.set_cons_succ, List.set_cons_zero]
          gi_wp2_with fail
          refine ⟨KeepsOthers.setCell _ _ _, (Below.refl _ _).setCell (by have := HB.out.2.2; simp; omega) _, ?_, ?_⟩
          · exact HI.out.1.1.setCell (p := ⟨B, 0, none⟩) (.inl rfl) _
          · rw [List.length_append, List.length_singleton, ← HI.out.2.1, show (((m + 1 : Nat)) : Int) = (m : Int) + 1 by omega]
            exact HI.out.2.2
        case done =>
          rintro D ys W hD hys hI hK
          have hyl : (ys.length : Int) = (n : Int) - (T.rank a : Int) := by have := congrArg List.length hys; rw [List.length_map, List.length_map] at this; have := HO.out.1; omega
          obtain ⟨m, hm⟩ : ∃ m, m = ys.length := ⟨_, rfl⟩
          rw [← hm] at hI hyl
          have cn := row_cell hI.2 (i := 0) rfl
          have hw2 : wrap64 ((n : Int) - (T.rank a : Int)) = (m : Int) := by unfold wrap64; have := HF.out.2; omega
          have HC := Lib.hid (And.intro hI (And.intro hK hD))
          rw [hA0]
          clear hI hK hD hys hyl hm hA0
          go_wp2
          refine ⟨by simp, .inl ⟨_, _, rfl, run_takeDeferred HC.out.2.1, ?_⟩⟩
          refine ⟨.bool true, ?_, rfl, ((A14.out.trans HC.out.1.1 (fun k hk => .inr (by have := HB.out.2.2; have := A14.out.size; omega))).grown (grownBy_putObj' _ D (.deferred none)) (fun k hk => .inr (by cases hk; have := HC.out.2.2; have := HB.out.2; have := A14.out.size; omega)))⟩
          simp [results, Tryz.f6, go_sem]
        case stop =>
          rintro D c pre W hD hpre h hK
          exact h.elim
  · have HGO := Lib.hid hgo
    clear hgo
    by_cases h16 : n ≤ 16
    · have d16 : decide ((16 : Int) < (n : Int)) = false := decide_eq_false (by omega)
      have hc : ¬ c = 0 := fun e => HGO.out ⟨h16, e⟩
      clear h16
      go_wp2_with fail
      exact ⟨.bool true, by simp [results, Tryz.f6, go_sem], rfl, A3.out.1⟩
    · have d16 : decide ((16 : Int) < (n : Int)) = true := decide_eq_true (by omega)
      clear h16
      go_wp2_with fail
      exact ⟨.bool true, by simp [results, Tryz.f6, go_sem], rfl, A3.out.1⟩
end Go.Proofs.YtfllneenonhonaaGreat.Law13
