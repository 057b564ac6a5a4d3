/- PutKnown: the document's examples: the walk. -/
import Derived.Test.YtpeebeebakjpdaaAwake9
import Derived.Deep.OwnRows
namespace Go.Proofs.Ytpeebeebakjpdaa.Law9
open Go Go.RowKit Go.Proofs.Ytpeebeebakjpdaa Go.Proofs.Ytpeebeebakjpdaa.ShaW Go.Proofs.Ytpeebeebakjpdaa.Path Go.Proofs.Ytpeebeebakjpdaa.Store
set_option maxHeartbeats 1600000
set_option linter.unusedVariables false

/-- The last key but 255. -/
def keyLast : List UInt8 := List.replicate 31 0 ++ [1]
theorem treeLast : (tree 256 (upd (upd [] (keyL 0) []) keyLast [])).nodes = 258 := by
  have h := ins_tree (L := upd [] (keyL 0) []) (k := keyLast) (v := []) 256 (Nat.le_refl _) ⟨by decide, by decide, fun _ _ _ h => absurd h (Nat.not_lt_zero _)⟩ rfl
  rw [← h]
  decide +kernel
theorem commonLast : common keyLast (keyL 0) = 255 := by decide +kernel
theorem On.leaf {f : View} (hz : f 0 = none) {key k v : List UInt8} {h e : Int} {d : Nat} {l : List Int} (ho : On f key h d l e) (hr : Rep f h d (.leaf k v)) : l = [] ∧ e = h ∧ ∃ x, f h = some x ∧ x.kind = 1 ∧ x.key = k ∧ x.value = v := by
  generalize ht : Tr.leaf k v = t at hr
  cases hr with
  | nil => cases ht
  | node _ _ _ _ _ => cases ht
  | leaf hn hk =>
    injection ht with e1 e2
    cases ho with
    | stop _ => exact ⟨rfl, rfl, _, hn, hk, e1.symm, e2.symm⟩
    | step hn' hk' _ _ => rw [hn] at hn'; cases hn'; omega
theorem costLast {σ : SlabSt Nd} {r : Int} (D : Db σ r (upd [] (keyL 0) [])) {l : List Int} {e : Int} (ho : On (sk σ) keyLast r 0 l e) : (if sameS σ keyLast [] e = true then (0 : Int) else (putCost σ keyLast l e : Nat)) = 257 := by
  obtain ⟨rfl, rfl, x, hx, h1, h2, h3⟩ := On.leaf D.good.fit.zero ho D.rep
  have hne : (keyL 0 : List UInt8) ≠ keyLast := by decide +kernel
  have hs : sameS σ keyLast [] e = false := by
    unfold sameS
    rw [nd_key hx, h2, decide_eq_false hne]
    simp
  have hot : otherS σ keyLast e = true := by
    unfold otherS
    rw [nd_key hx, nd_kind hx, h1, h2]
    simpa using hne
  rw [hs, putCost_yes hot (Nat.zero_le _), nd_key hx, h2, commonLast]
  rfl
set_option maxRecDepth 100000 in
theorem known_law (w : World) : Calls Try.prog 6 #[] w fun e w' => e = .returned (.bool true) ∧ Adds w w' := by
  obtain ⟨K0, hK0⟩ : ∃ K, K = brow (keyL 0) := ⟨_, rfl⟩
  obtain ⟨KL, hKL⟩ : ∃ K, K = brow keyLast := ⟨_, rfl⟩
  have hb0 := key_built
  have hz0 : (Try.prog.info? 29).bind (·.zero) = some (.agg K0) := by rw [hK0]; exact zeroP
  have hk0 : K0.size = 32 ∧ (∀ v ∈ K0.toList, v.oneCell' = true) ∧ K0[31]? = some (.int .u8 0) ∧ K0.setIfInBounds 31 (.int .u8 1) = KL ∧ KL.size = 32 := by
    rw [hK0, hKL]
    exact ⟨rfl, brow_one _, rfl, rfl, rfl⟩
  rw [← hK0] at hb0
  have HB0 := Lib.hid hb0
  have HZ0 := Lib.hid hz0
  have HK := Lib.hid hk0
  have HK0 := Lib.hid hK0
  have HKL := Lib.hid hKL
  clear hb0 hz0 hk0 hK0 hKL
  go_enter Try.func6, Try.ntmps6
  go_wp2_with fail
  refine (New_own 600 w (by decide) (by decide)).mono ?_; rintro e w1 ⟨s, rfl, h1⟩
  have H1 := Lib.hid (h1.ow.less (G' := fun _ => False) (fun _ h => h.elim))
  clear h1
  have q31 := row_cell (row_setRow_same (heap_alloc_new w1 (.cells K0 29)) K0) HK.out.2.2.1
  have f31 := row_free (row_setRow_same (heap_alloc_new w1 (.cells K0 29)) K0) 31
  go_upto_region 4 with (first
    | fail
    | ((with_reducible show wpList _ _ _ (⟨_, .build 29 #[], _, _, _, _⟩ :: _) _ _); refine wpList_build_none rfl 29 rfl K0 HB0.out ?_)
    | ((with_reducible show wpList _ _ _ (⟨_, .alloc 29, _, _, _, _⟩ :: _) _ _); refine wpList_alloc_is rfl 29 rfl (.agg K0) HZ0.out ?_; dsimp only [Value.cells]; try simp only [World.size_alloc])
    | ((with_reducible show wpList _ _ _ (⟨_, .store 29 _ _, _, _, _, _⟩ :: _) _ _); refine wpList_store_part rfl 29 _ _ rfl w1.heap.size 0 K0 rfl rfl (heap_alloc_new _ _) (by rw [sizeP, HK.out.1]) (by rw [HK.out.1]; omega) HK.out.2.1 K0 (by rw [splice_all _ _ (by rw [Array.length_toList])]) ?_))
  obtain ⟨w2, hw2⟩ : ∃ w2, w2 = ((w1.alloc (.cells K0 29)).setRow w1.heap.size K0).setCell ⟨w1.heap.size, 31, none⟩ (.int .u8 1) := ⟨_, rfl⟩
  rw [← hw2]
  have a2 : Adds w1 w2 := by rw [hw2]; exact (((Ch.refl _ _).alloc _).setRow (.inr (Nat.le_refl _)) _).setCell (.inr (Nat.le_refl _)) _
  have r2 : w2.heap[w1.heap.size]? = some (.cells KL 29 (0, 0)) := by
    rw [hw2, row_set_same (row_setRow_same (heap_alloc_new w1 (.cells K0 29)) K0) 31 (.int .u8 1), HK.out.2.2.2.1]
  have o2 : Ow w w2 s ⟨600, [], []⟩ (fun k => k = w1.heap.size) := H1.out.more a2 (fun k hk => .inr ⟨Nat.le_of_eq hk.symm, by rw [hk]; exact row_lt r2⟩)
  have D0 := Db.new 600 (by decide) (by decide)
  have hp := Put_db o2 D0 (key := keyL 0) (bs := []) rfl (Bytes.nil _) (fun h => absurd rfl h) (by simp) (by decide) (by decide)
  rw [← HK0.out] at hp
  have HP := Lib.hid hp
  have R2 := Lib.hid r2
  clear hp q31 f31 hw2 a2 r2 o2 D0
  go_wp2_with (first
    | fail
    | ((with_reducible show wpList _ _ _ (⟨_, .build 29 #[], _, _, _, _⟩ :: _) _ _); refine wpList_build_none rfl 29 rfl K0 HB0.out ?_))
  refine HP.out.mono ?_; rintro e w3 ⟨r1, σ1, rfl, o3, b3, W3, D3, _⟩
  have r3 := b3.row R2.out rfl
  have S3 := W3.sole (Sole.new 600 0)
  have hu1 : σ1.used = 1 := by rw [D3.good.used, D3.live S3, tree1.1]
  have hl1 : live σ1 + 258 ≤ σ1.room := by rw [← D3.good.used, hu1, W3.room]; decide
  have ht1 : total σ1 + 600 < 1073741824 := by have := W3.total; rw [show total (⟨600, [], []⟩ : SlabSt Nd) = 0 from rfl] at this; omega
  obtain ⟨F3, hF3⟩ := o3.at
  obtain ⟨l, e1, ho⟩ := On.ex (k := keyLast) D3.rep
  have hco := Cost_ok hF3 D3.good r1 keyLast rfl (Bytes.nil _) (by simp) D3.hand (rootErr_hand D3.hand) ho
  rw [costLast D3 ho, ← HKL.out] at hco
  have HCO := Lib.hid hco
  have hp := fun w4 (a : Adds w3 w4) => Put_db (o3.adds a) D3 (key := keyLast) (bs := []) rfl (Bytes.nil _) (fun h => absurd rfl h) (by simp) hl1 ht1
  rw [← HKL.out] at hp
  have HP2 := Lib.hid hp
  have R3 := Lib.hid r3
  have HS3 := Lib.hid S3
  have HW3 := Lib.hid W3
  clear hp hco ho hF3 o3 b3 W3 D3 r3 S3 hu1 hl1 ht1 HP R2
  go_wp2_with (first
    | fail
    | ((with_reducible show wpList _ _ _ (⟨_, .load 29 _, _, _, _, _⟩ :: _) _ _); refine wpList_load_part rfl 29 _ rfl w1.heap.size 0 rfl R3.out Try.underlying29 rfl sizeP (by rw [HK.out.2.2.2.2]; omega) KL (by simp [← HK.out.2.2.2.2]) ?_))
  refine HCO.out.mono ?_; rintro e w4 ⟨rfl, a4⟩
  have A4 := Lib.hid (And.intro a4 (a4.row R3.out id))
  clear a4
  go_wp2_with (first
    | fail
    | ((with_reducible show wpList _ _ _ (⟨_, .load 29 _, _, _, _, _⟩ :: _) _ _); refine wpList_load_part rfl 29 _ rfl w1.heap.size 0 rfl A4.out.2 Try.underlying29 rfl sizeP (by rw [HK.out.2.2.2.2]; omega) KL (by simp [← HK.out.2.2.2.2]) ?_))
  refine (HP2.out _ A4.out.1).mono ?_; rintro e w5 ⟨r2, σ2, rfl, o5, b5, W5, D5, _⟩
  have hu2 : σ2.used = 258 := by rw [D5.good.used, D5.live (W5.sole HS3.out), treeLast]
  have hroom : σ2.room = 600 := by rw [W5.room, HW3.out.room]
  have hspan : σ2.slots.length < 599 := by
    have h1 := W5.span
    have h2 := HW3.out.span
    rw [show (⟨600, [], []⟩ : SlabSt Nd).slots.length = 0 from rfl] at h2
    omega
  have hfar : atHand σ2 599 = 7 := by
    unfold atHand rootErr
    rw [has_none (get_far (by omega))]
    simp
  have hfits : fitsJ σ2 0 = true ∧ fitsJ σ2 1 = true ∧ fitsJ σ2 2 = false ∧ fitsJ σ2 (-1) = false ∧ fitsJ σ2 65 = false := by
    unfold fitsJ
    rw [hu2, hroom]
    decide
  obtain ⟨F5, hF5⟩ := o5.at
  have hoc := Occupied_ok hF5
  rw [hu2] at hoc
  have HOC := Lib.hid hoc
  have HF := Lib.hid hfits
  have HFAR := Lib.hid hfar
  have H5 := Lib.hid o5
  clear hoc hF5 hfits hfar hspan hroom hu2 o5 b5 W5 D5 HP2 HCO HS3 HW3 A4 R3
  go_wp2_with fail
  refine HOC.out.mono ?_; rintro e w6 ⟨rfl, rfl⟩
  go_wp2_with fail
  refine (New_own 257 _ (by decide) (by decide)).mono ?_; rintro e w7 ⟨s7, rfl, h7⟩
  have H7 := Lib.hid h7
  clear h7
  have hpf := fun (hAt : ∃ F, At w7 s7 F ⟨257, [], []⟩) => Put_full hAt.choose_spec 0 (keyL 0) (bs := []) (Bytes.nil _) (by simp) (Db.new 257 (by decide) (by decide)).hand (by decide)
  have hpf := hpf ((H7.out.ow.less (G' := fun _ => False) (fun _ h => h.elim)).at)
  rw [← HK0.out] at hpf
  have HPF := Lib.hid hpf
  clear hpf
  go_wp2_with (first
    | fail
    | ((with_reducible show wpList _ _ _ (⟨_, .build 29 #[], _, _, _, _⟩ :: _) _ _); refine wpList_build_none rfl 29 rfl K0 HB0.out ?_))
  refine HPF.out.mono ?_; rintro e w8 ⟨rfl, a8⟩
  have H8 := Lib.hid (H7.out.adds a8)
  clear a8 HPF
  go_wp2_with fail
  refine (New_own 258 _ (by decide) (by decide)).mono ?_; rintro e w9 ⟨s9, rfl, h9⟩
  have hp := Put_db (h9.ow.less (G' := fun _ => False) (fun _ h => h.elim)) (Db.new 258 (by decide) (by decide)) (key := keyL 0) (bs := []) rfl (Bytes.nil _) (fun h => absurd rfl h) (by simp) (by decide) (by decide)
  rw [← HK0.out] at hp
  have HP := Lib.hid hp
  clear hp h9
  go_wp2_with (first
    | fail
    | ((with_reducible show wpList _ _ _ (⟨_, .build 29 #[], _, _, _, _⟩ :: _) _ _); refine wpList_build_none rfl 29 rfl K0 HB0.out ?_))
  refine HP.out.mono ?_; rintro e w10 ⟨r10, σ10, rfl, o10, _, _, _, _⟩
  have H10 := Lib.hid (And.intro ((H5.out.adds H8.out.world).adds o10.world) (H8.out.adds o10.world))
  clear o10 HP
  have hph := fun (hAt : ∃ F, At w10 s F σ2) => Put_hand hAt.choose_spec 599 (keyL 0) (bs := []) (Bytes.nil _) (by simp) (by rw [HFAR.out]; decide)
  have hph := hph H10.out.1.at
  rw [← HK0.out, HFAR.out] at hph
  have HPH := Lib.hid hph
  clear hph
  go_wp2_with (first
    | fail
    | ((with_reducible show wpList _ _ _ (⟨_, .build 29 #[], _, _, _, _⟩ :: _) _ _); refine wpList_build_none rfl 29 rfl K0 HB0.out ?_))
  refine HPH.out.mono ?_; rintro e w11 ⟨rfl, a11⟩
  have H11 := Lib.hid (And.intro (H10.out.1.adds a11) (H10.out.2.adds a11))
  clear a11 HPH
  have hmk : ∀ w : World, (Instr.makeSlice 30 (.int .i64 1025) (.int .i64 1025)).run Try.prog w = .ok (.slice (some ⟨w.heap.size, 0, none⟩) 1025 1025) (w.alloc (.cells (madeCells #[.int .u8 0] 1025) 5)) := fun w =>
    run_make_row' 30 5 (.int .u8 0) 1 Try.underlying30 (by kernel_rfl) rfl .i64 .i64 1025 (by omega) (by omega) w
  obtain ⟨MC, hMC⟩ : ∃ MC, MC = madeCells #[Value.int .u8 0] 1025 := ⟨_, rfl⟩
  rw [← hMC] at hmk
  clear hMC
  go_wp2_with (first
    | fail
    | ((with_reducible show wpList _ _ _ (⟨_, .build 29 #[], _, _, _, _⟩ :: _) _ _); refine wpList_build_none rfl 29 rfl K0 HB0.out ?_))
  have hpl : ∃ F, At (w11.alloc (.cells MC 5)) s7 F ⟨257, [], []⟩ := ((H11.out.2.ow.less (G' := fun _ => False) (fun _ h => h.elim)).adds ((Ch.refl _ _).alloc _)).at
  refine (Put_long hpl.choose_spec 0 K0 _ 1025 1025 (by decide)).mono ?_; rintro e w12 ⟨rfl, a12⟩
  have H12 := Lib.hid (H11.out.1.adds (((Ch.refl (fun _ => False) _).alloc _).trans a12 (fun _ h => h.elim)))
  clear a12 hpl hmk
  obtain ⟨F12, hF12⟩ := H12.out.at
  have f0 := Fits_ok hF12 0
  have f1 := Fits_ok hF12 1
  have f2 := Fits_ok hF12 2
  have f3 := Fits_ok hF12 (-1)
  have f4 := Fits_ok hF12 65
  rw [HF.out.1] at f0
  rw [HF.out.2.1] at f1
  rw [HF.out.2.2.1] at f2
  rw [HF.out.2.2.2.1] at f3
  rw [HF.out.2.2.2.2] at f4
  have HF5 := Lib.hid (And.intro f0 (And.intro f1 (And.intro f2 (And.intro f3 f4))))
  clear f0 f1 f2 f3 f4 hF12
  go_wp2_with fail
  refine HF5.out.1.mono ?_; rintro e w13 ⟨rfl, rfl⟩
  go_wp2_with fail
  refine HF5.out.2.1.mono ?_; rintro e w13 ⟨rfl, rfl⟩
  go_wp2_with fail
  refine HF5.out.2.2.1.mono ?_; rintro e w13 ⟨rfl, rfl⟩
  go_wp2_with fail
  refine HF5.out.2.2.2.1.mono ?_; rintro e w13 ⟨rfl, rfl⟩
  go_wp2_with fail
  refine HF5.out.2.2.2.2.mono ?_; rintro e w13 ⟨rfl, rfl⟩
  go_wp2_with fail
  refine (awake_ok _).mono ?_; rintro e w14 ⟨rfl, a14⟩
  have H14 := Lib.hid (H12.out.world.trans a14 (fun _ h => h.elim))
  clear a14
  go_wp2_with fail
  go_ret
  exact ⟨rfl, H14.out⟩
end Go.Proofs.Ytpeebeebakjpdaa.Law9
