/- ListKnown: the document's examples: the walk. -/
import Derived.Test.YtfllneenonhonaaKnA13
import Derived.Test.YtfllneenonhonaaNode1
namespace Go.Proofs.Ytfllneenonhonaa.Law13
open Go Go.RowKit Go.Proofs.Ytfllneenonhonaa Go.Proofs.Ytfllneenonhonaa.ShaW Go.Proofs.Ytfllneenonhonaa.Path Go.Proofs.Ytfllneenonhonaa.Store Go.Proofs.Ytfllneenonhonaa.Law9
set_option maxHeartbeats 6400000
set_option linter.unusedVariables false

set_option maxRecDepth 100000 in
theorem known_law (w : World) : Calls Try.prog 4 #[] w fun e w' => e = .returned (.bool true) ∧ Adds w w' := by
  obtain ⟨K0, hK0⟩ : ∃ K, K = brow key0 := ⟨_, rfl⟩
  obtain ⟨K1, hK1⟩ : ∃ K, K = brow (keyL 64) := ⟨_, rfl⟩
  obtain ⟨K2, hK2⟩ : ∃ K, K = brow (keyL 128) := ⟨_, rfl⟩
  obtain ⟨N, hN⟩ : ∃ K, K = brow keyN := ⟨_, rfl⟩
  obtain ⟨Z, hZ⟩ : ∃ Z, Z = zPair := ⟨_, rfl⟩
  have hb0 : Try.prog.built 23 [] = some (brow key0) := key_built
  have hb1 := key_built64
  have hb2 := key_built1
  rw [← hK0] at hb0
  rw [← hK1] at hb1
  rw [← hK2] at hb2
  have hzp : (Try.prog.info? 23).bind (·.zero) = some (.agg K0) := by rw [hK0]; exact zeroP
  obtain ⟨hz0, hz1, hz2, _⟩ := pair_z
  rw [← hZ] at hz0 hz1 hz2
  have hs : K0.size = 32 ∧ N.size = 32 ∧ ∀ v ∈ N.toList, v.oneCell' = true := by rw [hK0, hN]; exact ⟨rfl, by rw [brow_size]; exact next_64.2, brow_one _⟩
  have HB := Lib.hid (And.intro hb0 (And.intro hb1 hb2))
  have HZ := Lib.hid (And.intro hz0 (And.intro hz1 hz2))
  have HP := Lib.hid (And.intro hzp hs)
  have HK := Lib.hid (And.intro hK0 (And.intro hK1 (And.intro hK2 (And.intro hN hZ))))
  clear hb0 hb1 hb2 hz0 hz1 hz2 hzp hs hK0 hK1 hK2 hN hZ
  go_enter Try.func4, Try.ntmps4
  go_wp2_with fail
  refine (three_ok w).mono ?_; rintro e w1 ⟨ao, l, rfl, h1, h2, h3, h4, a1⟩
  have HF := Lib.hid (filled3 h1 h2 h3 h4)
  have A1 := Lib.hid a1
  clear h1 h2 h3 h4 a1
  go_wp2_with fail
  refine HF.out.mono ?_; rintro e w2 ⟨s, root, rfl, hs⟩
  have A2 := Lib.hid (A1.out.trans hs.world (fun _ h => h.elim))
  have HN3 := Lib.hid (hs.nth_bad 3 (.inr (by omega)))
  have HS := Lib.hid hs
  clear hs A1 HF
  go_wp2_with fail
  refine HN3.out.mono ?_; rintro e w3 ⟨rfl, a3⟩
  rw [← HK.out.2.2.2.2]
  have A3 := Lib.hid a3
  clear a3 HN3
  go_upto_region 3 with (first
    | fail
    | ((with_reducible show wpList _ _ _ (⟨_, .alloc 37, _, _, _, _⟩ :: _) _ _); refine wpList_alloc_is rfl 37 rfl (.agg Z) HZ.out.1 ?_; dsimp only [Value.cells]; try simp only [World.size_alloc])
    | ((with_reducible show wpList _ _ _ (⟨_, .store 37 _ _, _, _, _, _⟩ :: _) _ _); refine wpList_store_part rfl 37 _ _ rfl w3.heap.size 0 Z rfl rfl (heap_alloc_new _ _) (by rw [sizePr, HZ.out.2.1]) (by omega) HZ.out.2.2 Z (by rw [splice_all _ _ rfl]) ?_))
  obtain ⟨w4, hw4⟩ : ∃ w4, w4 = (w3.alloc (.cells Z 37)).setRow w3.heap.size Z := ⟨_, rfl⟩
  rw [← hw4]
  have A4 := Lib.hid (A3.out.trans (by rw [hw4]; exact ((Ch.refl _ _).alloc _).setRow (.inr (Nat.le_refl _)) _ : Adds w3 w4) (fun _ h => h.elim))
  have HN1 := Lib.hid ((HS.out.adds A4.out).nth_bad (-1) (.inl (by omega)))
  clear hw4 A3
  go_wp2_with fail
  refine HN1.out.mono ?_; rintro e w5 ⟨rfl, a5⟩
  rw [← HK.out.2.2.2.2]
  have A5 := Lib.hid (A4.out.trans a5 (fun _ h => h.elim))
  clear a5 HN1 A4
  go_upto_region 4 with (first
    | fail
    | ((with_reducible show wpList _ _ _ (⟨_, .alloc 37, _, _, _, _⟩ :: _) _ _); refine wpList_alloc_is rfl 37 rfl (.agg Z) HZ.out.1 ?_; dsimp only [Value.cells]; try simp only [World.size_alloc])
    | ((with_reducible show wpList _ _ _ (⟨_, .store 37 _ _, _, _, _, _⟩ :: _) _ _); refine wpList_store_part rfl 37 _ _ rfl w5.heap.size 0 Z rfl rfl (heap_alloc_new _ _) (by rw [sizePr, HZ.out.2.1]) (by omega) HZ.out.2.2 Z (by rw [splice_all _ _ rfl]) ?_))
  obtain ⟨w6, hw6⟩ : ∃ w6, w6 = (w5.alloc (.cells Z 37)).setRow w5.heap.size Z := ⟨_, rfl⟩
  rw [← hw6]
  have A6 := Lib.hid (A5.out.trans (by rw [hw6]; exact ((Ch.refl _ _).alloc _).setRow (.inr (Nat.le_refl _)) _ : Adds w5 w6) (fun _ h => h.elim))
  have HR0 := Lib.hid (HS.out.adds A6.out).rank0
  rw [← HK.out.1] at HR0
  clear hw6 A5
  go_wp2_with (first
    | fail
    | ((with_reducible show wpList _ _ _ (⟨_, .build 23 _, _, _, _, _⟩ :: _) _ _); refine wpList_build_none rfl 23 rfl K0 HB.out.1 ?_))
  refine HR0.out.mono ?_; rintro e w7 ⟨rfl, a7⟩
  have A7 := Lib.hid (A6.out.trans a7 (fun _ h => h.elim))
  have HS0 := Lib.hid ((HS.out.adds A7.out).someOk key0 rfl 2 (by omega) some_0)
  rw [← HK.out.1] at HS0
  clear a7 HR0 A6
  go_wp2_with (first
    | fail
    | ((with_reducible show wpList _ _ _ (⟨_, .build 23 _, _, _, _, _⟩ :: _) _ _); refine wpList_build_none rfl 23 rfl K0 HB.out.1 ?_))
  refine HS0.out.mono ?_; rintro e w8 ⟨ao8, cap8, o8, rfl, hp8, he8, a8⟩
  have A8 := Lib.hid (And.intro (A7.out.trans a8 (fun _ h => h.elim)) (And.intro hp8 he8))
  obtain ⟨n8, hn8⟩ : ∃ n, n = o8.length := ⟨_, rfl⟩
  have HN8 := Lib.hid hn8
  rw [← hn8]
  have HNX := Lib.hid (Next_ok (keyL 64) rfl w8)
  rw [← HK.out.2.1, show (nextK (keyL 64)).1 = keyN from rfl, ← HK.out.2.2.2.1, next_64.1] at HNX
  clear a8 hp8 he8 HS0 A7 hn8
  go_wp2_with (first
    | fail
    | ((with_reducible show wpList _ _ _ (⟨_, .build 23 _, _, _, _, _⟩ :: _) _ _); refine wpList_build_one rfl 23 0 _ rfl (.int .u8 64) rfl K1 HB.out.2.1 ?_))
  refine HNX.out.mono ?_; rintro e w9 ⟨rfl, a9⟩
  have A9 := Lib.hid (A8.out.1.trans a9 (fun _ h => h.elim))
  have B9 := Lib.hid (a9 : Adds w8 w9)
  clear a9 HNX
  go_upto_region 7 with (first
    | fail
    | ((with_reducible show wpList _ _ _ (⟨_, .alloc 23, _, _, _, _⟩ :: _) _ _); refine wpList_alloc_is rfl 23 rfl (.agg K0) HP.out.1 ?_; dsimp only [Value.cells]; try simp only [World.size_alloc])
    | ((with_reducible show wpList _ _ _ (⟨_, .store 23 _ _, _, _, _, _⟩ :: _) _ _); refine wpList_store_part rfl 23 _ _ rfl w9.heap.size 0 N rfl rfl (heap_alloc_new _ _) (by rw [sizeP, HP.out.2.2.1]) (by rw [HP.out.2.2.1, HP.out.2.1]; omega) HP.out.2.2.2 N (by rw [splice_all _ _ (by rw [Array.length_toList, Array.length_toList, HP.out.2.2.1, HP.out.2.1])]) ?_))
  obtain ⟨wa, hwa⟩ : ∃ wa, wa = (w9.alloc (.cells K0 23)).setRow w9.heap.size N := ⟨_, rfl⟩
  rw [← hwa]
  have aa : Adds w9 wa := by rw [hwa]; exact ((Ch.refl _ _).alloc _).setRow (.inr (Nat.le_refl _)) _
  have ra : wa.heap[w9.heap.size]? = some (.cells N 23 (0, 0)) := by rw [hwa]; exact row_setRow_same (heap_alloc_new _ _) _
  have BA := Lib.hid (B9.out.trans aa (fun _ h => h.elim))
  have AA := Lib.hid (And.intro (A9.out.trans aa (fun _ h => h.elim)) ra)
  have HSN := Lib.hid ((HS.out.adds AA.out.1).someOk keyN next_64.2 256 (by omega) some_n)
  rw [← HK.out.2.2.2.1] at HSN
  clear hwa aa ra A9
  go_wp2_with (first
    | fail
    | ((with_reducible show wpList _ _ _ (⟨_, .load 23 _, _, _, _, _⟩ :: _) _ _); refine wpList_load_part rfl 23 _ rfl w9.heap.size 0 rfl AA.out.2 Try.underlying23 rfl sizeP (by rw [HP.out.2.2.1]; omega) N (by have := HP.out.2.2.1; simp [← this]) ?_))
  refine HSN.out.mono ?_; rintro e wb ⟨aob, capb, ob, rfl, hpb, heb, ab⟩
  have AB := Lib.hid (And.intro (AA.out.1.trans ab (fun _ h => h.elim)) (And.intro hpb (And.intro heb (ab.row AA.out.2 id))))
  have BB := Lib.hid (BA.out.trans ab (fun _ h => h.elim))
  obtain ⟨nb, hnb⟩ : ∃ n, n = ob.length := ⟨_, rfl⟩
  have HNB := Lib.hid hnb
  rw [← hnb]
  have HA1 := Lib.hid ((HS.out.adds AB.out.1).someArg N 257 (.inr (by omega)))
  clear ab hpb heb HSN hnb
  go_wp2_with (first
    | fail
    | ((with_reducible show wpList _ _ _ (⟨_, .load 23 _, _, _, _, _⟩ :: _) _ _); refine wpList_load_part rfl 23 _ rfl w9.heap.size 0 rfl AB.out.2.2.2 Try.underlying23 rfl sizeP (by rw [HP.out.2.2.1]; omega) N (by have := HP.out.2.2.1; simp [← this]) ?_))
  refine HA1.out.mono ?_; rintro e wc ⟨rfl, ac⟩
  have AC := Lib.hid (And.intro (AB.out.1.trans ac (fun _ h => h.elim)) (ac.row AB.out.2.2.2 id))
  have BC := Lib.hid (BB.out.trans ac (fun _ h => h.elim))
  have CC := Lib.hid (ac : Adds wb wc)
  have HA2 := Lib.hid ((HS.out.adds AC.out.1).someArg N (-1) (.inl (by omega)))
  clear ac HA1
  go_wp2_with (first
    | fail
    | ((with_reducible show wpList _ _ _ (⟨_, .load 23 _, _, _, _, _⟩ :: _) _ _); refine wpList_load_part rfl 23 _ rfl w9.heap.size 0 rfl AC.out.2 Try.underlying23 rfl sizeP (by rw [HP.out.2.2.1]; omega) N (by have := HP.out.2.2.1; simp [← this]) ?_))
  refine HA2.out.mono ?_; rintro e wd ⟨rfl, ad⟩
  have AD := Lib.hid (AC.out.1.trans ad (fun _ h => h.elim))
  have BD := Lib.hid (BC.out.trans ad (fun _ h => h.elim))
  have CD := Lib.hid (CC.out.trans ad (fun _ h => h.elim))
  have HB1 := Lib.hid ((HS.out.adds AD.out).btw key0 (keyL 64) rfl rfl btw_2)
  rw [← HK.out.1, ← HK.out.2.1] at HB1
  clear ad HA2
  go_wp2_with (first
    | fail
    | ((with_reducible show wpList _ _ _ (⟨_, .build 23 #[], _, _, _, _⟩ :: _) _ _); refine wpList_build_none rfl 23 rfl K0 HB.out.1 ?_)
    | ((with_reducible show wpList _ _ _ (⟨_, .build 23 _, _, _, _, _⟩ :: _) _ _); refine wpList_build_one rfl 23 0 _ rfl (.int .u8 64) rfl K1 HB.out.2.1 ?_))
  refine HB1.out.mono ?_; rintro e we ⟨rfl, ae⟩
  have AE := Lib.hid (AD.out.trans ae (fun _ h => h.elim))
  have BE := Lib.hid (BD.out.trans ae (fun _ h => h.elim))
  have CE := Lib.hid (CD.out.trans ae (fun _ h => h.elim))
  have HB2 := Lib.hid ((HS.out.adds AE.out).btw (keyL 64) key0 rfl rfl btw_0)
  rw [← HK.out.1, ← HK.out.2.1] at HB2
  clear ae HB1
  go_wp2_with (first
    | fail
    | ((with_reducible show wpList _ _ _ (⟨_, .build 23 #[], _, _, _, _⟩ :: _) _ _); refine wpList_build_none rfl 23 rfl K0 HB.out.1 ?_)
    | ((with_reducible show wpList _ _ _ (⟨_, .build 23 _, _, _, _, _⟩ :: _) _ _); refine wpList_build_one rfl 23 0 _ rfl (.int .u8 64) rfl K1 HB.out.2.1 ?_))
  refine HB2.out.mono ?_; rintro e wf ⟨rfl, af⟩
  have AF := Lib.hid (AE.out.trans af (fun _ h => h.elim))
  have BF := Lib.hid (BE.out.trans af (fun _ h => h.elim))
  have CF := Lib.hid (CE.out.trans af (fun _ h => h.elim))
  clear af HB2
  go_wp2_with fail
  refine (awake_ok wf).mono ?_; rintro e wg ⟨rfl, ag⟩
  have AG := Lib.hid (AF.out.trans ag (fun _ h => h.elim))
  have A8h := Lib.hid (BF.out.trans ag (fun _ h => h.elim))
  have ABg := Lib.hid (CF.out.trans ag (fun _ h => h.elim))
  clear ag
  go_wp2_with fail
  refine (three_ok wg).mono ?_; rintro e wh ⟨ao3, l3, rfl, t1, t2, t3, t4, ah⟩
  have hsh : ∀ w0 : World, (Instr.sliceAt 41 (.slice ao3 3 3) none (some (.int .i64 2)) none).run Try.prog w0 = .ok (.slice ao3 2 3) w0 := fun w0 => run_pairs_h w0 ao3 3 3 2 (by omega)
  have p8 : PairsAt wh ao8 o8 := ((A8.out.2.1.keep A8h.out (fun _ h => h.elim)).keep ah (fun _ h => h.elim))
  have q1 := SamePairs_ok cap8 3 p8 (t1.take 2) (by rw [← HN8.out]; have := congrArg List.length A8.out.2.2; rw [List.length_map, ← HN8.out] at this; rw [this]; decide) (by rw [List.length_take, t2]; decide)
  rw [← HN8.out, List.length_take, t2, show decide (o8.map Pr.ent = (l3.take 2).map Pr.ent) = true from decide_eq_true (by rw [A8.out.2.2, List.map_take, t3]; rfl)] at q1
  have Q1 := Lib.hid q1
  have AH := Lib.hid (And.intro (AG.out.trans ah (fun _ h => h.elim)) (ABg.out.trans ah (fun _ h => h.elim)))
  clear t1 t2 t3 t4 ah p8 q1
  go_wp2_with fail
  refine Q1.out.mono ?_; rintro e wi ⟨rfl, ai⟩
  have AI := Lib.hid (And.intro (AH.out.1.trans ai (fun _ h => h.elim)) (AH.out.2.trans ai (fun _ h => h.elim)))
  clear ai Q1
  go_wp2_with fail
  refine (three_ok wi).mono ?_; rintro e wj ⟨ao4, l4, rfl, t1, t2, t3, t4, aj⟩
  have hsl : ∀ w0 : World, (Instr.sliceAt 41 (.slice ao4 3 3) (some (.int .i64 2)) none none).run Try.prog w0 = .ok (.slice (advP ao4 3 2) 1 1) w0 := fun w0 => run_pairs_l w0 ao4 3 3 2 (by omega)
  have pb : PairsAt wj aob ob := ((AB.out.2.1.keep AI.out.2 (fun _ h => h.elim)).keep aj (fun _ h => h.elim))
  have q1 := SamePairs_ok capb 1 pb (t1.drop 2 3 (by omega)) (by rw [← HNB.out]; have := congrArg List.length AB.out.2.2.1; rw [List.length_map, ← HNB.out] at this; rw [this]; decide) (by rw [List.length_drop, t2]; decide)
  rw [← HNB.out, List.length_drop, t2, show decide (ob.map Pr.ent = (l4.drop 2).map Pr.ent) = true from decide_eq_true (by rw [AB.out.2.2.1, List.map_drop, t3]; rfl)] at q1
  have Q1 := Lib.hid q1
  have AJ := Lib.hid (AI.out.1.trans aj (fun _ h => h.elim))
  clear t1 t2 t3 t4 aj pb q1 hsh
  go_wp2_with fail
  refine Q1.out.mono ?_; rintro e wk ⟨rfl, ak⟩
  have AK := Lib.hid (AJ.out.trans ak (fun _ h => h.elim))
  have HFR := Lib.hid ((HS.out.adds AK.out).fromOk (keyL 128) rfl from_128)
  rw [← HK.out.2.2.1] at HFR
  clear ak Q1 hsl
  go_wp2_with (first
    | fail
    | ((with_reducible show wpList _ _ _ (⟨_, .build 23 _, _, _, _, _⟩ :: _) _ _); refine wpList_gbuild_one (by first | rfl | (simp [Region.wanted]; done)) 23 0 _ rfl (.int .u8 128) rfl K2 HB.out.2.2 ?_))
  refine HFR.out.mono ?_; rintro e wl ⟨q, rfl, hq, al⟩
  obtain ⟨b, rfl⟩ := seq_form hq
  have AL := Lib.hid (And.intro (AK.out.trans al (fun _ h => h.elim)) hq)
  clear al hq HFR
  go_wp2_with fail
  refine (three_ok wl).mono ?_; rintro e wm ⟨ao5, l5, rfl, t1, t2, t3, t4, am⟩
  have hsl : ∀ w0 : World, (Instr.sliceAt 41 (.slice ao5 3 3) (some (.int .i64 2)) none none).run Try.prog w0 = .ok (.slice (advP ao5 3 2) 1 1) w0 := fun w0 => run_pairs_l w0 ao5 3 3 2 (by omega)
  have hgo := gone_ok (seq_adds AL.out.2 am) 1 (t1.drop 2 3 (by omega)) (by rw [List.map_drop, t3]; rfl) (by rw [List.length_drop, t2]; decide) (fun x hx => t4 x (List.mem_of_mem_drop hx)) 0
  rw [List.length_drop, t2] at hgo
  have HGO := Lib.hid hgo
  have AM := Lib.hid (AL.out.1.trans am (fun _ h => h.elim))
  clear hgo t1 t2 t3 t4 am
  go_wp2_with fail
  refine HGO.out.mono ?_; rintro e wn ⟨rfl, an⟩
  have AN := Lib.hid ((A2.out.trans AM.out (fun _ h => h.elim)).trans an (fun _ h => h.elim))
  clear an
  go_wp2
  go_ret
  exact ⟨rfl, AN.out⟩
end Go.Proofs.Ytfllneenonhonaa.Law13
