/- DropKnown: the document's examples: the walk. -/
import Derived.Test.YtpeebeebakjpdaaKnP10
import Derived.Deep.OwnRows
namespace Go.Proofs.Ytpeebeebakjpdaa.Law10
open Go Go.RowKit Go.Proofs.Ytpeebeebakjpdaa Go.Proofs.Ytpeebeebakjpdaa.ShaW Go.Proofs.Ytpeebeebakjpdaa.Path Go.Proofs.Ytpeebeebakjpdaa.Store Go.Proofs.Ytpeebeebakjpdaa.Law9
set_option maxHeartbeats 25600000
set_option linter.unusedVariables false

theorem new_small : live (⟨600, [], []⟩ : SlabSt Nd) = 0 ∧ total (⟨600, [], []⟩ : SlabSt Nd) = 0 := ⟨rfl, rfl⟩
set_option maxRecDepth 100000 in
theorem known_law (w : World) : Calls Try.prog 8 #[] w fun e w' => e = .returned (.bool true) ∧ Adds w w' := by
  obtain ⟨K0, hK0⟩ : ∃ K, K = brow (keyL 0) := ⟨_, rfl⟩
  obtain ⟨K1, hK1⟩ : ∃ K, K = brow (keyL 128) := ⟨_, rfl⟩
  obtain ⟨KL, hKL⟩ : ∃ K, K = brow keyLast := ⟨_, rfl⟩
  obtain ⟨C0, hC0⟩ : ∃ C, C = (pr (keyL 0)).cells := ⟨_, rfl⟩
  obtain ⟨C1, hC1⟩ : ∃ C, C = (pr (keyL 128)).cells := ⟨_, rfl⟩
  obtain ⟨CL, hCL⟩ : ∃ C, C = (pr keyLast).cells := ⟨_, rfl⟩
  have hb0 := key_built
  have hb1 := key_built1
  have hp0 := pr_built0
  have hp1 := pr_built1
  have hpL := pr_builtL
  have hz0 : (Try.prog.info? 29).bind (·.zero) = some (.agg K0) := by rw [hK0]; exact zeroP
  have hk0 : K0.size = 32 ∧ (∀ v ∈ K0.toList, v.oneCell' = true) ∧ K0[31]? = some (.int .u8 0) ∧ K0.setIfInBounds 31 (.int .u8 1) = KL ∧ KL.size = 32 := by
    rw [hK0, hKL]
    exact ⟨rfl, brow_one _, rfl, rfl, rfl⟩
  rw [← hK0] at hb0 hp0
  rw [← hK1] at hb1 hp1
  rw [← hKL] at hpL
  rw [← hC0] at hp0
  rw [← hC1] at hp1
  rw [← hCL] at hpL
  have hcs : C0.size = 33 ∧ C1.size = 33 ∧ CL.size = 33 := by rw [hC0, hC1, hCL]; exact ⟨rfl, rfl, rfl⟩
  obtain ⟨i0, z0, p1, p2, p3, p4, p5⟩ := pair_info
  have HB0 := Lib.hid hb0
  have HB1 := Lib.hid hb1
  have HP := Lib.hid (And.intro hp0 (And.intro hp1 hpL))
  have HCS := Lib.hid hcs
  have HZ0 := Lib.hid hz0
  have HK := Lib.hid hk0
  have HK0 := Lib.hid hK0
  have HK1 := Lib.hid hK1
  have HKL := Lib.hid hKL
  have HI := Lib.hid (And.intro p1 (And.intro p2 p3))
  have HCC := Lib.hid (And.intro hC0 (And.intro hC1 hCL))
  clear hb0 hb1 hp0 hp1 hpL hz0 hk0 hcs p1 p2 p3 p4 p5 hK0 hK1 hKL hC0 hC1 hCL
  go_enter Try.func8, Try.ntmps8
  have q31 := row_cell (row_setRow_same (heap_alloc_new w (.cells K0 29)) K0) HK.out.2.2.1
  have f31 := row_free (row_setRow_same (heap_alloc_new w (.cells K0 29)) K0) 31
  go_upto_region 3 with (first
    | fail
    | ((with_reducible show wpList _ _ _ (⟨_, .build 29 #[], _, _, _, _⟩ :: _) _ _); refine wpList_build_none rfl 29 rfl K0 HB0.out ?_)
    | ((with_reducible show wpList _ _ _ (⟨_, .alloc 29, _, _, _, _⟩ :: _) _ _); refine wpList_alloc_is rfl 29 rfl (.agg K0) HZ0.out ?_; dsimp only [Value.cells]; try simp only [World.size_alloc])
    | ((with_reducible show wpList _ _ _ (⟨_, .store 29 _ _, _, _, _, _⟩ :: _) _ _); refine wpList_store_part rfl 29 _ _ rfl w.heap.size 0 K0 rfl rfl (heap_alloc_new _ _) (by rw [sizeP, HK.out.1]) (by rw [HK.out.1]; omega) HK.out.2.1 K0 (by rw [splice_all _ _ (by rw [Array.length_toList])]) ?_))
  obtain ⟨w2, hw2⟩ : ∃ w2, w2 = ((w.alloc (.cells K0 29)).setRow w.heap.size K0).setCell ⟨w.heap.size, 31, none⟩ (.int .u8 1) := ⟨_, rfl⟩
  rw [← hw2]
  have a2 : Adds w w2 := by rw [hw2]; exact (((Ch.refl _ _).alloc _).setRow (.inr (Nat.le_refl _)) _).setCell (.inr (Nat.le_refl _)) _
  have r2 : w2.heap[w.heap.size]? = some (.cells KL 29 (0, 0)) := by
    rw [hw2, row_set_same (row_setRow_same (heap_alloc_new w (.cells K0 29)) K0) 31 (.int .u8 1), HK.out.2.2.2.1]
  have A2 := Lib.hid a2
  have R2 := Lib.hid r2
  clear q31 f31 hw2 a2 r2
  go_wp2_with fail
  refine (New_own 600 w2 (by decide) (by decide)).mono ?_; rintro e w3 ⟨s, rfl, h3⟩
  have o3 : Ow w2 w3 s ⟨600, [], []⟩ (fun _ => False) := h3.ow.less (fun _ h => h.elim)
  have D3 := Db.new 600 (by decide) (by decide)
  have hd := Drop_db o3 D3 (key := keyL 0) rfl (by decide) (by decide)
  rw [← HK0.out] at hd
  have HD := Lib.hid hd
  clear hd h3 o3
  go_wp2_with (first
    | fail
    | ((with_reducible show wpList _ _ _ (⟨_, .build 29 #[], _, _, _, _⟩ :: _) _ _); refine wpList_build_none rfl 29 rfl K0 HB0.out ?_))
  refine HD.out.mono ?_; rintro e w4 ⟨r4, σ4, gone4, rfl, o4, b4, C4, D4, hg4, hno4⟩
  obtain rfl : gone4 = false := by
    cases gone4 with
    | false => rfl
    | true => exact absurd (hg4.1 rfl) (by simp [keysOf])
  obtain ⟨rfl, rfl⟩ := hno4 rfl
  have hp := Put_db o4 D3 (key := keyL 0) (bs := []) rfl (Bytes.nil _) (fun h => absurd rfl h) (by simp) (by decide) (by decide)
  rw [← HK0.out] at hp
  have HPU := Lib.hid hp
  clear hp o4 b4 C4 D4 hg4 hno4 D3 HD
  go_wp2_with (first
    | fail
    | ((with_reducible show wpList _ _ _ (⟨_, .build 29 #[], _, _, _, _⟩ :: _) _ _); refine wpList_build_none rfl 29 rfl K0 HB0.out ?_))
  refine HPU.out.mono ?_; rintro e w5 ⟨r5, σ5, rfl, o5, b5, W5, D5, _⟩
  have D5 : Db σ5 r5 ent1 := D5
  have S5 := W5.sole (Sole.new 600 0)
  have l5 : live σ5 = 1 := by rw [D5.live S5, nodesA]
  have t5 : total σ5 ≤ 600 := by have := W5.total; rw [new_small.2] at this; omega
  have m5 : σ5.room = 600 := W5.room
  have hd := Drop_db o5 D5 (key := keyL 0) rfl (by rw [l5, m5]; decide) (by omega)
  rw [← HK0.out, leftA] at hd
  have HD := Lib.hid hd
  have H5 := Lib.hid (And.intro S5 (And.intro t5 m5))
  clear hd o5 b5 W5 D5 S5 l5 t5 m5 HPU
  go_wp2_with (first
    | fail
    | ((with_reducible show wpList _ _ _ (⟨_, .build 29 #[], _, _, _, _⟩ :: _) _ _); refine wpList_build_none rfl 29 rfl K0 HB0.out ?_))
  refine HD.out.mono ?_; rintro e w6 ⟨r6, σ6, gone6, rfl, o6, b6, C6, D6, hg6, _⟩
  obtain rfl : gone6 = true := hg6.2 inA
  obtain rfl : r6 = 0 := Rep.none_zero D6.rep rfl
  have S6 := C6.sole H5.out.1
  have l6 : live σ6 = 0 := by rw [D6.live S6]; rfl
  have t6 : total σ6 ≤ 1600 := by have := C6.total; have := H5.out.2.1; omega
  have m6 : σ6.room = 600 := C6.room.trans H5.out.2.2
  have u6 : σ6.used = 0 := by rw [D6.good.used, l6]
  obtain ⟨F6, hF6⟩ := o6.at
  have hoc := Occupied_ok hF6
  rw [u6] at hoc
  have HOC := Lib.hid hoc
  have hp := Put_db o6 D6 (key := keyL 0) (bs := []) rfl (Bytes.nil _) (fun h => absurd rfl h) (by simp) (by rw [l6, m6]; decide) (by omega)
  rw [← HK0.out] at hp
  have HPU := Lib.hid hp
  have H6 := Lib.hid (And.intro S6 (And.intro t6 m6))
  clear hoc hp hF6 hg6 o6 b6 C6 D6 S6 l6 t6 m6 u6 HD H5
  go_wp2_with fail
  refine HOC.out.mono ?_; rintro e w7 ⟨rfl, rfl⟩
  go_wp2_with (first
    | fail
    | ((with_reducible show wpList _ _ _ (⟨_, .build 29 #[], _, _, _, _⟩ :: _) _ _); refine wpList_build_none rfl 29 rfl K0 HB0.out ?_))
  refine HPU.out.mono ?_; rintro e w8 ⟨r8, σ8, rfl, o8, b8, W8, D8, _⟩
  have D8 : Db σ8 r8 ent1 := D8
  have S8 := W8.sole H6.out.1
  have l8 : live σ8 = 1 := by rw [D8.live S8, nodesA]
  have t8 : total σ8 ≤ 2200 := by have := W8.total; have := H6.out.2.1; omega
  have m8 : σ8.room = 600 := W8.room.trans H6.out.2.2
  have hp := Put_db o8 D8 (key := keyLast) (bs := []) rfl (Bytes.nil _) (fun h => absurd rfl h) (by simp) (by rw [l8, m8]; decide) (by omega)
  rw [← HKL.out] at hp
  have HPU2 := Lib.hid hp
  have H8 := Lib.hid (And.intro S8 (And.intro t8 m8))
  have R8 := Lib.hid (o8.world.row R2.out id)
  clear hp o8 b8 W8 D8 S8 l8 t8 m8 HPU H6 HOC
  go_wp2_with (first
    | fail
    | ((with_reducible show wpList _ _ _ (⟨_, .load 29 _, _, _, _, _⟩ :: _) _ _); refine wpList_load_part rfl 29 _ rfl w.heap.size 0 rfl R8.out Try.underlying29 rfl sizeP (by rw [HK.out.2.2.2.2]; omega) KL (by simp [← HK.out.2.2.2.2]) ?_))
  refine HPU2.out.mono ?_; rintro e w9 ⟨r9, σ9, rfl, o9, b9, W9, D9, _⟩
  have D9 : Db σ9 r9 ent2 := D9
  have S9 := W9.sole H8.out.1
  have l9 : live σ9 = 258 := by rw [D9.live S9, nodesB]
  have t9 : total σ9 ≤ 2800 := by have := W9.total; have := H8.out.2.1; omega
  have m9 : σ9.room = 600 := W9.room.trans H8.out.2.2
  obtain ⟨F9, hF9⟩ := o9.at
  have hco := DCost_db hF9 D9 (key := keyLast) rfl
  rw [if_pos inB, costB, ← HKL.out] at hco
  have HCO := Lib.hid hco
  have hd := fun w10 (a : Adds w9 w10) => Drop_db (o9.adds a) D9 (key := keyLast) rfl (by rw [l9, m9]; decide) (by omega)
  rw [← HKL.out, leftB] at hd
  have HD := Lib.hid hd
  have H9 := Lib.hid (And.intro S9 (And.intro t9 m9))
  have R9 := Lib.hid (o9.world.row R2.out id)
  clear hco hd hF9 o9 b9 W9 D9 S9 l9 t9 m9 HPU2 H8 R8
  go_wp2_with (first
    | fail
    | ((with_reducible show wpList _ _ _ (⟨_, .load 29 _, _, _, _, _⟩ :: _) _ _); refine wpList_load_part rfl 29 _ rfl w.heap.size 0 rfl R9.out Try.underlying29 rfl sizeP (by rw [HK.out.2.2.2.2]; omega) KL (by simp [← HK.out.2.2.2.2]) ?_))
  refine HCO.out.mono ?_; rintro e w10 ⟨rfl, a10⟩
  have A10 := Lib.hid (And.intro a10 (a10.row R9.out id))
  clear a10
  go_wp2_with (first
    | fail
    | ((with_reducible show wpList _ _ _ (⟨_, .load 29 _, _, _, _, _⟩ :: _) _ _); refine wpList_load_part rfl 29 _ rfl w.heap.size 0 rfl A10.out.2 Try.underlying29 rfl sizeP (by rw [HK.out.2.2.2.2]; omega) KL (by simp [← HK.out.2.2.2.2]) ?_))
  refine (HD.out _ A10.out.1).mono ?_; rintro e w11 ⟨r11, σ11, gone11, rfl, o11, b11, C11, D11, hg11, _⟩
  obtain rfl : gone11 = true := hg11.2 inB
  have S11 := C11.sole H9.out.1
  have u11 : σ11.used = 1 := by rw [D11.good.used, D11.live S11, nodesA]
  obtain ⟨F11, hF11⟩ := o11.at
  have hoc := Occupied_ok hF11
  rw [u11] at hoc
  have HOC := Lib.hid hoc
  have W11 := Lib.hid (And.intro o11.world (o11.world.row R2.out id))
  clear hoc hF11 hg11 o11 b11 C11 D11 S11 u11 HD HCO H9 R9 A10
  go_wp2_with fail
  refine HOC.out.mono ?_; rintro e w12 ⟨rfl, rfl⟩
  have hpat : PairsAt (w11.alloc (.cells (C0 ++ (C1 ++ CL)) 32)) (some ⟨w11.heap.size, 0, none⟩) [pr (keyL 0), pr (keyL 128), pr keyLast] := by
    rw [HCC.out.1, HCC.out.2.1, HCC.out.2.2, ← Array.append_assoc]
    exact three_at (heap_alloc_new _ _)
  have hfl := filled_ok 3 hpat (by decide) (by decide)
  have HF := Lib.hid hfl
  clear hpat hfl HOC
  go_wp2_with (first
    | fail
    | ((with_reducible show wpList _ _ _ (⟨_, .build 29 #[], _, _, _, _⟩ :: _) _ _); refine wpList_build_none rfl 29 rfl K0 HB0.out ?_)
    | ((with_reducible show wpList _ _ _ (⟨_, .build 29 _, _, _, _, _⟩ :: _) _ _); refine wpList_build_one rfl 29 0 _ rfl (.int .u8 128) rfl K1 HB1.out ?_)
    | ((with_reducible show wpList _ _ _ (⟨_, .load 29 _, _, _, _, _⟩ :: _) _ _); refine wpList_load_part rfl 29 _ rfl w.heap.size 0 rfl W11.out.2 Try.underlying29 rfl sizeP (by rw [HK.out.2.2.2.2]; omega) KL (by simp [← HK.out.2.2.2.2]) ?_)
    | ((with_reducible show wpList _ _ _ (⟨_, .build 32 _, _, _, _, _⟩ :: _) _ _); refine wpList_build_one rfl 32 0 _ rfl (.agg K0) rfl C0 HP.out.1 ?_)
    | ((with_reducible show wpList _ _ _ (⟨_, .build 32 _, _, _, _, _⟩ :: _) _ _); refine wpList_build_one rfl 32 0 _ rfl (.agg K1) rfl C1 HP.out.2.1 ?_)
    | ((with_reducible show wpList _ _ _ (⟨_, .build 32 _, _, _, _, _⟩ :: _) _ _); refine wpList_build_one rfl 32 0 _ rfl (.agg KL) rfl CL HP.out.2.2 ?_)
    | ((with_reducible show wpList _ _ _ (⟨_, .buildSlice 22 _ _, _, _, _, _⟩ :: _) _ _); refine wpList_buildSlice_three rfl 22 _ _ _ rfl 32 i0 z0 (.agg C0) (.agg C1) (.agg CL) rfl rfl rfl Try.underlying22 HI.out.1 HI.out.2.1 (by rw [HI.out.2.2]; decide) (by rw [HI.out.2.2]; decide) (by rw [HI.out.2.2]; exact HCS.out.1) (by rw [HI.out.2.2]; exact HCS.out.2.1) (by rw [HI.out.2.2]; exact HCS.out.2.2) ?_; dsimp only [Value.cells]))
  refine HF.out.mono ?_; rintro e w13 ⟨t, σ13, r13, rfl, h13⟩
  rw [ents3] at h13
  obtain ⟨F13, hF13⟩ := h13.own.at
  have hco := DCost_db hF13 h13.db (key := keyL 128) rfl
  rw [if_pos inC, costC, ← HK1.out] at hco
  have HCO := Lib.hid hco
  have hd := fun w14 (a : Adds w13 w14) => Drop_db (h13.own.adds a) h13.db (key := keyL 128) rfl (by have := h13.live; rw [h13.room]; simp at this; omega) (by have := h13.total; simp at this; omega)
  rw [leftC, ← HK1.out] at hd
  have HD := Lib.hid hd
  have H13 := Lib.hid h13.sole
  have W13 := Lib.hid (W11.out.1.trans ((Ch.refl (fun _ => False) w11).alloc (.cells (C0 ++ (C1 ++ CL)) 32)) (fun _ h => h.elim))
  clear hco hd hF13 h13 HF
  go_wp2_with (first
    | fail
    | ((with_reducible show wpList _ _ _ (⟨_, .build 29 _, _, _, _, _⟩ :: _) _ _); refine wpList_build_one rfl 29 0 _ rfl (.int .u8 128) rfl K1 HB1.out ?_))
  refine HCO.out.mono ?_; rintro e w14 ⟨rfl, a14⟩
  have A14 := Lib.hid a14
  clear a14
  go_wp2_with (first
    | fail
    | ((with_reducible show wpList _ _ _ (⟨_, .build 29 _, _, _, _, _⟩ :: _) _ _); refine wpList_build_one rfl 29 0 _ rfl (.int .u8 128) rfl K1 HB1.out ?_))
  refine (HD.out _ A14.out).mono ?_; rintro e w15 ⟨r15, σ15, gone15, rfl, o15, b15, C15, D15, hg15, _⟩
  obtain rfl : gone15 = true := hg15.2 inC
  have u15 : σ15.used = 258 := by rw [D15.good.used, D15.live (C15.sole H13.out), nodesB]
  obtain ⟨F15, hF15⟩ := o15.at
  have hoc := Occupied_ok hF15
  rw [u15] at hoc
  have HOC := Lib.hid hoc
  have W15 := Lib.hid (W13.out.trans o15.world (fun _ h => h.elim))
  clear hoc hF15 hg15 o15 b15 C15 D15 u15 HD HCO H13 A14
  go_wp2_with fail
  refine HOC.out.mono ?_; rintro e w16 ⟨rfl, rfl⟩
  go_wp2_with fail
  refine (New_own 258 _ (by decide) (by decide)).mono ?_; rintro e w17 ⟨u, rfl, h17⟩
  have hp := Put_first (by decide) (by decide) (h17.ow.less (G' := fun _ => False) (fun _ h => h.elim)) (key := keyL 0) (bs := []) rfl (Bytes.nil _) (fun h => absurd rfl h) (by simp)
  rw [← HK0.out] at hp
  have HPU := Lib.hid hp
  clear hp h17 HOC
  go_wp2_with (first
    | fail
    | ((with_reducible show wpList _ _ _ (⟨_, .build 29 #[], _, _, _, _⟩ :: _) _ _); refine wpList_build_none rfl 29 rfl K0 HB0.out ?_))
  refine HPU.out.mono ?_; rintro e w18 ⟨r18, σ18, rfl, o18, b18, D18, n18, u18, m18⟩
  have hfull : fitsJ σ18 1 = false := by rw [fitsJ_one, u18, m18]; rfl
  have hfar : atHand σ18 9 = 7 := by
    unfold atHand rootErr
    rw [has_none (get_far (by omega))]
    simp
  obtain ⟨F18, hF18⟩ := o18.at
  have hd1 := Drop_full hF18 r18 K0 D18.hand hfull
  have hd2 := fun w19 (a : Adds w18 w19) => Drop_hand (hF18.adds a) 9 K0 (by rw [hfar]; decide)
  rw [hfar] at hd2
  have HD := Lib.hid (And.intro hd1 hd2)
  have W18 := Lib.hid (W15.out.trans o18.world (fun _ h => h.elim))
  clear hd1 hd2 hF18 hfull hfar o18 b18 D18 n18 u18 m18 HPU
  go_wp2_with (first
    | fail
    | ((with_reducible show wpList _ _ _ (⟨_, .build 29 #[], _, _, _, _⟩ :: _) _ _); refine wpList_build_none rfl 29 rfl K0 HB0.out ?_))
  refine HD.out.1.mono ?_; rintro e w19 ⟨rfl, a19⟩
  have A19 := Lib.hid a19
  clear a19
  go_wp2_with (first
    | fail
    | ((with_reducible show wpList _ _ _ (⟨_, .build 29 #[], _, _, _, _⟩ :: _) _ _); refine wpList_build_none rfl 29 rfl K0 HB0.out ?_))
  refine (HD.out.2 _ A19.out).mono ?_; rintro e w20 ⟨rfl, a20⟩
  have W20 := Lib.hid (((A2.out.trans W18.out (fun _ h => h.elim)).trans A19.out (fun _ h => h.elim)).trans a20 (fun _ h => h.elim))
  clear a20 HD
  go_wp2_with fail
  refine (awake_ok _).mono ?_; rintro e w21 ⟨rfl, a21⟩
  have H21 := Lib.hid (W20.out.trans a21 (fun _ h => h.elim))
  clear a21
  go_wp2_with fail
  go_ret
  exact ⟨rfl, H21.out⟩
end Go.Proofs.Ytpeebeebakjpdaa.Law10
