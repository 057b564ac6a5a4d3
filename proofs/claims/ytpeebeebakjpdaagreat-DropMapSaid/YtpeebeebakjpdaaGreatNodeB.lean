/- node.parted and node.root: the digest of rising entries. -/
import Derived.Test.YtpeebeebakjpdaaGreatNodeA
namespace Go.Proofs.YtpeebeebakjpdaaGreat.Law9
open Go Go.RowKit Go.Sort Go.Proofs.YtpeebeebakjpdaaGreat Go.Proofs.YtpeebeebakjpdaaGreat.ShaW Go.Proofs.YtpeebeebakjpdaaGreat.Path Go.Proofs.YtpeebeebakjpdaaGreat.Store
set_option maxHeartbeats 3200000
set_option linter.unusedVariables false

set_option maxRecDepth 100000 in
theorem parted_ok {w : World} {ao : Option Addr} {l : List Pr} (cap : Nat) (h : PairsAt w ao l) (hn : l.length ≤ 4096) (d : Nat) (hd : d < 256) :
    Calls Tryz.prog 147 #[.slice ao l.length cap, .int .i64 (d : Int)] w fun e w' => Adds w w' ∧ ∃ n : Nat, e = .returned (.int .i64 n) ∧ n ≤ l.length ∧ (∀ i x, i < n → l[i]? = some x → kbit x.key d = 0) ∧ (∀ x, l[n]? = some x → kbit x.key d = 1) := by
  obtain ⟨len, hlen⟩ : ∃ len, len = l.length := ⟨_, rfl⟩
  rw [← hlen] at hn ⊢
  have HL := Lib.hid hlen
  have HP := Lib.hid h
  have HD := Lib.hid hd
  clear h hlen hd
  go_enter Tryz.func147, Tryz.ntmps147
  go_wp2
  go_loopg [5] len (fun g s5 wr => ∃ k : Nat, s5 = .int .i64 k ∧ k + g = len ∧ (∀ i x, i < k → l[i]? = some x → kbit x.key d = 0) ∧ Adds w wr)
  case atStart => exact ⟨0, rfl, by omega, fun i x hi => absurd hi (Nat.not_lt_zero _), Ch.refl _ _⟩
  case round =>
    obtain ⟨k, rfl, hk, h0, hA⟩ := hrel
    have HA := Lib.hid hA
    have H0 := Lib.hid h0
    have HKG := Lib.hid hk
    clear hA h0
    by_cases hkl : k = len
    · have hx1 : decide ((k : Int) < (len : Int)) = false := decide_eq_false (by omega)
      have hx1' : decide (k < len) = false := decide_eq_false (by omega)
      have HKL := Lib.hid hkl
      clear hk hkl
      go_wp2
      go_ret
      exact ⟨HA.out, k, rfl, by have := HKL.out; omega, H0.out, fun x hx => by
        have := (List.getElem?_eq_some_iff.1 hx).1
        have := HKL.out
        have := HL.out
        omega⟩
    · have hx1 : decide ((k : Int) < (len : Int)) = true := decide_eq_true (by omega)
      have hx1' : decide (k < len) = true := decide_eq_true (by omega)
      have hkl' : k < l.length := by have := HL.out; omega
      have hklen : (k : Int) < (len : Int) := by omega
      have hklen' : k < len := by omega
      obtain ⟨x, hx⟩ : ∃ x, l[k]? = some x := ⟨_, List.getElem?_eq_getElem hkl'⟩
      obtain ⟨g0, off, rfl, hp⟩ := HP.out.2 k x hx
      have hg := HP.out.1 x (List.mem_of_getElem? hx)
      have hsz := Pr.size hg.key
      obtain ⟨cur, ty, fr, c1, c2, c3⟩ := hp
      rw [hsz] at c2 c3
      obtain ⟨ck, _⟩ := pair_parts hg.key c3
      have hb := Bit_ok x.key hg.key d wr
      rw [bit_in HD.out] at hb
      obtain ⟨K, hK⟩ : ∃ K, K = brow x.key := ⟨_, rfl⟩
      rw [← hK] at ck hb
      have HC := Lib.hid (And.intro (HA.out.row c1 id) (And.intro c2 ck))
      have HX := Lib.hid hx
      have HB := Lib.hid hb
      have hlt := kbit_cases x.key d
      obtain ⟨b, hbb⟩ : ∃ b, b = kbit x.key d := ⟨_, rfl⟩
      rw [← hbb] at hlt HB
      have HBB := Lib.hid hbb
      clear hk hkl hg hsz c1 c2 c3 ck hK hx hb hbb
      rcases hlt with rfl | rfl
      · go_wp2_with (first
          | fail
          | ((with_reducible show wpList _ _ _ (⟨_, .load 34 _, _, _, _, _⟩ :: _) _ _); refine wpList_load_part rfl 34 _ rfl g0 (off + k * 33) rfl HC.out.1 Tryz.underlying34 rfl sizeP (by have := HC.out.2.1; omega) K HC.out.2.2 ?_)
          | ((with_reducible show wpList _ _ _ (⟨_, .load 34 _, _, _, _, _⟩ :: _) _ _); refine wpList_gload_part (by first | rfl | (simp [Region.wanted]; done)) 34 _ rfl g0 (off + k * 33) rfl HC.out.1 Tryz.underlying34 rfl sizeP (by have := HC.out.2.1; omega) K HC.out.2.2 ?_))
        refine HB.out.mono ?_; rintro e w2 ⟨rfl, a2⟩
        have A2 := Lib.hid (HA.out.trans a2 (fun _ h => h.elim))
        clear a2
        go_wp2
        go_roundg (gk - 1)
        case measure => have := HKG.out; omega
        case rel => exact ⟨k + 1, rfl, by have := HKG.out; omega, fun i y hi hy => by
          rcases Nat.lt_or_ge i k with h | h
          · exact H0.out i y h hy
          · have : i = k := by omega
            subst this
            have hx := HX.out
            rw [hx] at hy
            cases hy
            exact HBB.out.symm, A2.out⟩
      · go_wp2_with (first
          | fail
          | ((with_reducible show wpList _ _ _ (⟨_, .load 34 _, _, _, _, _⟩ :: _) _ _); refine wpList_load_part rfl 34 _ rfl g0 (off + k * 33) rfl HC.out.1 Tryz.underlying34 rfl sizeP (by have := HC.out.2.1; omega) K HC.out.2.2 ?_)
          | ((with_reducible show wpList _ _ _ (⟨_, .load 34 _, _, _, _, _⟩ :: _) _ _); refine wpList_gload_part (by first | rfl | (simp [Region.wanted]; done)) 34 _ rfl g0 (off + k * 33) rfl HC.out.1 Tryz.underlying34 rfl sizeP (by have := HC.out.2.1; omega) K HC.out.2.2 ?_))
        refine HB.out.mono ?_; rintro e w2 ⟨rfl, a2⟩
        have A2 := Lib.hid (HA.out.trans a2 (fun _ h => h.elim))
        clear a2
        go_wp2
        go_ret
        exact ⟨A2.out, k, rfl, by omega, H0.out, fun y hy => by
          have hx := HX.out
          rw [hx] at hy
          cases hy
          exact HBB.out.symm⟩

/-! ### the digest -/
theorem root_none (ao : Option Addr) (cap : Nat) (d : Int) (w : World) : Calls Tryz.prog 125 #[.slice ao 0 cap, .int .i64 d] w fun e w' => e = .returned (.agg (brow Tag.emptyD)) ∧ Adds w w' := by
  obtain ⟨Z, hZ⟩ : ∃ Z, Z = brow (List.replicate 32 0) := ⟨_, rfl⟩
  have hzh := zeroH
  rw [← hZ] at hzh
  have hZs : Z.size = 32 := by rw [hZ]; rfl
  obtain ⟨O, hO⟩ : ∃ O, O = brow Tag.emptyD := ⟨_, rfl⟩
  have hos : O.size = 32 := by rw [hO, brow_size]; exact Tag.digest_length _ _
  have ho1 := brow_one Tag.emptyD
  have hcall := Tag.Empty_ok (w.alloc (.cells Z 58))
  rw [← hO] at ho1 hcall
  have HZ := Lib.hid (And.intro hzh hZs)
  have HO := Lib.hid (And.intro hO (And.intro hos ho1))
  have HC := Lib.hid hcall
  clear hzh hZs hZ hO hos ho1 hcall
  go_enter Tryz.func125, Tryz.ntmps125
  go_wp2_with (first
    | fail
    | ((with_reducible show wpList _ _ _ (⟨_, .alloc 58, _, _, _, _⟩ :: _) _ _); refine wpList_alloc_is rfl 58 rfl (.agg Z) HZ.out.1 ?_; dsimp only [Value.cells]; try simp only [World.size_alloc]))
  refine HC.out.mono ?_; rintro e w4 ⟨rfl, hc4⟩
  have Z4 := Lib.hid (hc4.row (heap_alloc_new w (.cells Z 58)) id)
  have W4 := Lib.hid (((Ch.refl (fun _ => False) w).alloc _).trans hc4 (fun _ h => h.elim))
  clear hc4
  go_wp2_with (first
    | fail
    | ((with_reducible show wpList _ _ _ (⟨_, .store 58 _ _, _, _, _, _⟩ :: _) _ _); refine wpList_store_part rfl 58 _ _ rfl w.heap.size 0 O rfl rfl Z4.out (by rw [sizeH, HO.out.2.1]) (by rw [HO.out.2.1, HZ.out.2]; omega) HO.out.2.2 O (by rw [splice_all _ _ (by rw [Array.length_toList, Array.length_toList, HO.out.2.1, HZ.out.2])]) ?_))
  exact bodyPost_ret_cell1 (p := 4) rfl rfl (row_setRow_same Z4.out _) Tryz.underlying58 rfl (by rw [sizeH, HO.out.2.1]) rfl ⟨by rw [HO.out.1], W4.out.setRow (.inr (Nat.le_refl _)) _⟩
theorem root_one {w : World} {ao : Option Addr} {x : Pr} (cap : Nat) (h : PairsAt w ao [x]) (hv : x.val.length ≤ 1024) (d : Int) : Calls Tryz.prog 125 #[.slice ao 1 cap, .int .i64 d] w fun e w' => e = .returned (.agg (brow (Tag.leafD x.key (Tag.valueD x.val)))) ∧ Adds w w' := by
  obtain ⟨Z, hZ⟩ : ∃ Z, Z = brow (List.replicate 32 0) := ⟨_, rfl⟩
  have hzh := zeroH
  rw [← hZ] at hzh
  have hZs : Z.size = 32 := by rw [hZ]; rfl
  obtain ⟨O, hO⟩ : ∃ O, O = brow (Tag.leafD x.key (Tag.valueD x.val)) := ⟨_, rfl⟩
  have hos : O.size = 32 := by rw [hO, brow_size]; exact Tag.digest_length _ _
  have ho1 := brow_one (Tag.leafD x.key (Tag.valueD x.val))
  rw [← hO] at ho1
  obtain ⟨g0, off, rfl, hp⟩ := h.2 0 x rfl
  rw [Nat.zero_mul, Nat.add_zero] at hp
  have hg := h.1 x (by simp)
  have hsz := Pr.size hg.key
  obtain ⟨cur, ty, fr, c1, c2, c3⟩ := hp
  rw [hsz] at c2 c3
  obtain ⟨ck, cv⟩ := pair_parts hg.key c3
  obtain ⟨xo, xc, hxv, _, _⟩ := hg.val.form
  rw [hxv] at cv
  obtain ⟨n, hnl⟩ : ∃ n, n = x.val.length := ⟨_, rfl⟩
  obtain ⟨K, hK⟩ : ∃ K, K = brow x.key := ⟨_, rfl⟩
  obtain ⟨V, hV⟩ : ∃ V, V = brow (Tag.valueD x.val) := ⟨_, rfl⟩
  have hval := fun w1 (a : Adds w w1) => Tag.Value_ok (hg.val.keep a (fun _ _ h => h)) (fun h0 k hk => Nat.lt_of_lt_of_le (hg.blk h0 k hk) a.size) (by omega)
  rw [hxv] at hval
  have hleaf := fun w1 => Tag.Leaf_ok x.key (Tag.valueD x.val) hg.key (Tag.digest_length _ _) w1
  rw [← hnl] at cv hval
  rw [← hK] at ck hleaf
  rw [← hV] at hval hleaf
  rw [← hO] at hleaf
  have hw1 : Adds w (w.alloc (.cells Z 58)).drew := ((Ch.refl _ _).alloc _).drew
  have HC := Lib.hid (And.intro c1 (And.intro c2 (And.intro ck cv)))
  have HZ := Lib.hid (And.intro hzh hZs)
  have HO := Lib.hid (And.intro hO (And.intro hos ho1))
  have HV := Lib.hid hval
  have HLF := Lib.hid hleaf
  have W1 := Lib.hid hw1
  clear hzh hZs hZ hO hos ho1 h hv hg hsz c1 c2 c3 ck cv hxv hnl hK hV hval hleaf hw1
  go_enter Tryz.func125, Tryz.ntmps125
  go_wp2_with (first
    | fail
    | ((with_reducible show wpList _ _ _ (⟨_, .alloc 58, _, _, _, _⟩ :: _) _ _); refine wpList_alloc_is rfl 58 rfl (.agg Z) HZ.out.1 ?_; dsimp only [Value.cells]; try simp only [World.size_alloc]))
  refine wp_region_plan (fun w0 => w0.heap[g0]? = some (.cells cur ty fr) ∧ Adds w w0) 11 [(0, false), (1, false), (2, false), (3, false), (4, false), (5, false), (6, false), (7, false), (8, true), (9, true), (10, true)] (by kernel_rfl) (by kernel_rfl) ?_ ?_
  · exact ⟨W1.out.row HC.out.1 id, W1.out⟩
  iterate 3
    refine plan_look rfl rfl (fun w0 hS => (by clear hS; go_simp; try rfl)) ?_
    simp only [Act.put, List.setIfInBounds_toArray, List.set_cons_succ, List.set_cons_zero]
  refine plan_load_part (cur := cur) (t := ty) (fr := fr) rfl rfl 34 _ rfl g0 off 32 rfl (fun w0 hS => hS.1) Tryz.underlying34 rfl sizeP (by have := HC.out.2.1; omega) K HC.out.2.2.1 ?_
  simp only [Act.put, List.setIfInBounds_toArray, List.set_cons_succ, List.set_cons_zero]
  iterate 3
    refine plan_look rfl rfl (fun w0 hS => (by clear hS; go_simp; try rfl)) ?_
    simp only [Act.put, List.setIfInBounds_toArray, List.set_cons_succ, List.set_cons_zero]
  refine plan_look (v := .slice xo n xc) rfl rfl (fun w0 hS => (by have e0 := row_cell hS.1 HC.out.2.2.2; clear hS; go_simp; try rfl)) ?_
  simp only [Act.put, List.setIfInBounds_toArray, List.set_cons_succ, List.set_cons_zero]
  refine plan_do rfl ?_
  go_wp2_with fail
  refine (HV.out _ W1.out).mono ?_; rintro e w4 ⟨rfl, a4⟩
  have A4 := Lib.hid (And.intro (W1.out.trans a4 (fun _ h => h.elim)) (a4.row (row_drew (heap_alloc_new w (.cells Z 58))) id))
  clear a4
  dsimp only
  go_step
  refine wpList_nil ?_
  change _ ∧ _
  refine ⟨⟨A4.out.1.row HC.out.1 id, A4.out.1⟩, ?_⟩
  refine plan_do rfl ?_
  go_wp2_with fail
  refine (HLF.out w4).mono ?_; rintro e w5 ⟨rfl, a5⟩
  have A5 := Lib.hid (And.intro (A4.out.1.trans a5 (fun _ h => h.elim)) (a5.row A4.out.2 id))
  clear a5
  dsimp only
  go_step
  refine wpList_nil ?_
  change _ ∧ _
  refine ⟨⟨A5.out.1.row HC.out.1 id, A5.out.1⟩, ?_⟩
  refine plan_do rfl ?_
  go_wp2_with (first
    | fail
    | ((with_reducible show wpList _ _ _ (⟨_, .store 58 _ _, _, _, _, _⟩ :: _) _ _); refine wpList_store_part rfl 58 _ _ rfl w.heap.size 0 O rfl rfl A5.out.2 (by rw [sizeH, HO.out.2.1]) (by rw [HO.out.2.1, HZ.out.2]; omega) HO.out.2.2 O (by rw [splice_all _ _ (by rw [Array.length_toList, Array.length_toList, HO.out.2.1, HZ.out.2])]) ?_))
  have W6 := Lib.hid (A5.out.1.setRow (.inr (Nat.le_refl _)) O)
  refine ⟨⟨W6.out.row HC.out.1 id, W6.out⟩, ?_⟩
  refine plan_end ?_; simp only [List.drop_succ_cons, List.drop_zero]
  go_wp2
  refine NoPanic.normal ?_
  go_wp2
  exact bodyPost_ret_cell1 (p := 4) rfl rfl (row_setRow_same A5.out.2 _) Tryz.underlying58 rfl (by rw [sizeH, HO.out.2.1]) rfl ⟨by rw [HO.out.1], W6.out⟩
/-- Two entries or more: the digests of both sides are joined. -/
theorem root_many {w : World} {ao : Option Addr} {l : List Pr} (cap : Nat) (d : Nat) (hd : d < 256) (h : PairsAt w ao l) (hl2 : 2 ≤ l.length) (hcap : l.length ≤ cap) (hn : l.length ≤ 4096) (DL DR : List UInt8) (h1 : DL.length = 32) (h2 : DR.length = 32)
    (hih : ∀ n, n ≤ l.length → (∀ i x, i < n → l[i]? = some x → kbit x.key d = 0) → (∀ x, l[n]? = some x → kbit x.key d = 1) → ∀ w', Adds w w' →
      (Calls Tryz.prog 125 #[.slice ao n cap, .int .i64 (wrap64 ((d : Int) + 1))] w' fun e w'' => e = .returned (.agg (brow DL)) ∧ Adds w' w'') ∧
      (Calls Tryz.prog 125 #[.slice (advP ao cap n) (l.length - n) (cap - n), .int .i64 (wrap64 ((d : Int) + 1))] w' fun e w'' => e = .returned (.agg (brow DR)) ∧ Adds w' w'')) :
    Calls Tryz.prog 125 #[.slice ao l.length cap, .int .i64 (d : Int)] w fun e w' => e = .returned (.agg (brow (Tag.innerD DL DR))) ∧ Adds w w' := by
  obtain ⟨Z, hZ⟩ : ∃ Z, Z = brow (List.replicate 32 0) := ⟨_, rfl⟩
  have hzh := zeroH
  rw [← hZ] at hzh
  have hZs : Z.size = 32 := by rw [hZ]; rfl
  obtain ⟨O, hO⟩ : ∃ O, O = brow (Tag.innerD DL DR) := ⟨_, rfl⟩
  have hos : O.size = 32 := by rw [hO, brow_size]; exact Tag.digest_length _ _
  have ho1 := brow_one (Tag.innerD DL DR)
  have hinn := fun w1 => Tag.Inner_ok DL DR h1 h2 w1
  rw [← hO] at ho1 hinn
  obtain ⟨BL, hBL⟩ : ∃ B, B = brow DL := ⟨_, rfl⟩
  obtain ⟨BR, hBR⟩ : ∃ B, B = brow DR := ⟨_, rfl⟩
  rw [← hBL] at hih hinn
  rw [← hBR] at hih hinn
  have hw1 : Adds w (w.alloc (.cells Z 58)) := (Ch.refl _ _).alloc _
  have hpt := parted_ok cap (h.keep hw1 (fun _ h => h.elim)) hn d hd
  obtain ⟨len, hlen⟩ : ∃ len, len = l.length := ⟨_, rfl⟩
  rw [← hlen] at hl2 hcap hn hih hpt ⊢
  have e0 : ((len : Int) == 0) = false := by simp; omega
  have e1 : ((len : Int) == 1) = false := by simp; omega
  have e0' : decide ((len : Int) = 0) = false := decide_eq_false (by omega)
  have e1' : decide ((len : Int) = 1) = false := decide_eq_false (by omega)
  have HZ := Lib.hid (And.intro hzh hZs)
  have HO := Lib.hid (And.intro hO (And.intro hos ho1))
  have HI := Lib.hid hinn
  have HPT := Lib.hid hpt
  have HIH := Lib.hid hih
  have HN := Lib.hid (And.intro hcap hl2)
  have W1 := Lib.hid hw1
  clear hzh hZs hZ hO hos ho1 hinn hpt hih hcap hl2 hw1 hn h hlen hd h1 h2 hBL hBR
  go_enter Tryz.func125, Tryz.ntmps125
  go_wp2_with (first
    | fail
    | ((with_reducible show wpList _ _ _ (⟨_, .alloc 58, _, _, _, _⟩ :: _) _ _); refine wpList_alloc_is rfl 58 rfl (.agg Z) HZ.out.1 ?_; dsimp only [Value.cells]; try simp only [World.size_alloc]))
  refine HPT.out.mono ?_; rintro e w2 ⟨a2, n, rfl, hnl, hb0, hb1⟩
  have hsh : ∀ w0 : World, (Instr.sliceAt 50 (.slice ao len cap) none (some (.int .i64 (n : Int))) none).run Tryz.prog w0 = .ok (.slice ao n cap) w0 := fun w0 => run_pairs_h w0 ao len cap n (by have := HN.out.1; omega)
  have hsl : ∀ w0 : World, (Instr.sliceAt 50 (.slice ao len cap) (some (.int .i64 (n : Int))) none none).run Tryz.prog w0 = .ok (.slice (advP ao cap n) (len - n) (cap - n)) w0 := fun w0 => run_pairs_l w0 ao len cap n hnl
  obtain ⟨av, hav⟩ : ∃ av, av = advP ao cap n := ⟨_, rfl⟩
  have hih := fun w' (a : Adds w w') => HIH.out n hnl hb0 hb1 w' a
  rw [← hav] at hsl hih
  obtain ⟨ln, hln⟩ : ∃ ln, ln = len - n := ⟨_, rfl⟩
  obtain ⟨cn, hcn⟩ : ∃ cn, cn = cap - n := ⟨_, rfl⟩
  rw [← hln, ← hcn] at hsl hih
  have HH := Lib.hid hih
  have A2 := Lib.hid (And.intro ((W1.out.trans a2 (fun _ h => h.elim)).drew) (a2.row (heap_alloc_new w (.cells Z 58)) id))
  clear a2 hnl hb0 hb1 hih hav hln hcn
  go_wp2_with fail
  refine wp_region_plan (fun w0 => Adds w w0) 14 [(0, false), (1, false), (2, false), (3, false), (4, false), (6, false), (7, false), (8, false), (9, false), (10, false), (5, true), (11, true), (12, true), (13, true)] (by kernel_rfl) (by kernel_rfl) ?_ ?_
  · exact A2.out.1
  iterate 2
    refine plan_look rfl rfl (fun w0 hS => (by clear hS; go_simp; try rfl)) ?_
    simp only [Act.put, List.setIfInBounds_toArray, List.set_cons_succ, List.set_cons_zero]
  refine plan_look (v := .slice ao n cap) rfl rfl (fun w0 hS => (by clear hS; go_simp; try rfl)) ?_
  simp only [Act.put, List.setIfInBounds_toArray, List.set_cons_succ, List.set_cons_zero]
  refine plan_look rfl rfl (fun w0 hS => (by clear hS; go_simp; try rfl)) ?_
  simp only [Act.put, List.setIfInBounds_toArray, List.set_cons_succ, List.set_cons_zero]
  refine plan_look (v := .int .i64 (wrap64 ((d : Int) + 1))) rfl rfl (fun w0 hS => (by clear hS; go_simp; exact IntWalk.i64_left _)) ?_
  simp only [Act.put, List.setIfInBounds_toArray, List.set_cons_succ, List.set_cons_zero]
  iterate 2
    refine plan_look rfl rfl (fun w0 hS => (by clear hS; go_simp; try rfl)) ?_
    simp only [Act.put, List.setIfInBounds_toArray, List.set_cons_succ, List.set_cons_zero]
  refine plan_look (v := .slice av ln cn) rfl rfl (fun w0 hS => (by clear hS; go_simp; try rfl)) ?_
  simp only [Act.put, List.setIfInBounds_toArray, List.set_cons_succ, List.set_cons_zero]
  refine plan_look rfl rfl (fun w0 hS => (by clear hS; go_simp; try rfl)) ?_
  simp only [Act.put, List.setIfInBounds_toArray, List.set_cons_succ, List.set_cons_zero]
  refine plan_look (v := .int .i64 (wrap64 ((d : Int) + 1))) rfl rfl (fun w0 hS => (by clear hS; go_simp; exact IntWalk.i64_left _)) ?_
  simp only [Act.put, List.setIfInBounds_toArray, List.set_cons_succ, List.set_cons_zero]
  refine plan_do rfl ?_
  go_wp2_with fail
  refine (HH.out _ A2.out.1).1.mono ?_; rintro e w3 ⟨rfl, a3⟩
  have A3 := Lib.hid (And.intro (A2.out.1.trans a3 (fun _ h => h.elim)) (a3.row (row_drew A2.out.2) id))
  clear a3
  dsimp only
  go_step
  refine wpList_nil ?_
  change _ ∧ _
  refine ⟨A3.out.1, ?_⟩
  refine plan_do rfl ?_
  go_wp2_with fail
  refine (HH.out _ A3.out.1).2.mono ?_; rintro e w4 ⟨rfl, a4⟩
  have A4 := Lib.hid (And.intro (A3.out.1.trans a4 (fun _ h => h.elim)) (a4.row A3.out.2 id))
  clear a4
  dsimp only
  go_step
  refine wpList_nil ?_
  change _ ∧ _
  refine ⟨A4.out.1, ?_⟩
  refine plan_do rfl ?_
  go_wp2_with fail
  refine (HI.out w4).mono ?_; rintro e w5 ⟨rfl, a5⟩
  have A5 := Lib.hid (And.intro (A4.out.1.trans a5 (fun _ h => h.elim)) (a5.row A4.out.2 id))
  clear a5
  dsimp only
  go_step
  refine wpList_nil ?_
  change _ ∧ _
  refine ⟨A5.out.1, ?_⟩
  refine plan_do rfl ?_
  go_wp2_with (first
    | fail
    | ((with_reducible show wpList _ _ _ (⟨_, .store 58 _ _, _, _, _, _⟩ :: _) _ _); refine wpList_store_part rfl 58 _ _ rfl w.heap.size 0 O rfl rfl A5.out.2 (by rw [sizeH, HO.out.2.1]) (by rw [HO.out.2.1, HZ.out.2]; omega) HO.out.2.2 O (by rw [splice_all _ _ (by rw [Array.length_toList, Array.length_toList, HO.out.2.1, HZ.out.2])]) ?_))
  have W6 := Lib.hid (A5.out.1.setRow (.inr (Nat.le_refl _)) O)
  refine ⟨W6.out, ?_⟩
  refine plan_end ?_; simp only [List.drop_succ_cons, List.drop_zero]
  go_wp2
  refine NoPanic.normal ?_
  go_wp2
  exact bodyPost_ret_cell1 (p := 4) rfl rfl (row_setRow_same A5.out.2 _) Tryz.underlying58 rfl (by rw [sizeH, HO.out.2.1]) rfl ⟨by rw [HO.out.1], W6.out⟩
/-- node.root: the digest of rising entries that are alike up to a depth. -/
theorem root_ok : ∀ (m : Nat), m ≤ 256 → ∀ {w : World} {ao : Option Addr} {l : List Pr} (cap : Nat) {k : List UInt8}, PairsAt w ao l → l.length ≤ cap → l.length ≤ 4096 → Ents.Ok (l.map Pr.ent) k (256 - m) → Rising (l.map Pr.ent) → (∀ x ∈ l, x.val.length ≤ 1024) →
    Calls Tryz.prog 125 #[.slice ao l.length cap, .int .i64 ((256 - m : Nat) : Int)] w fun e w' => e = .returned (.agg (brow (tree m (l.map Pr.ent)).dig)) ∧ Adds w w' := by
  intro m
  induction m with
  | zero =>
    intro _ w ao l cap k h hcap hn hO hr hv
    have hf := hO.few
    match l, h, hv, hf with
    | [], _, _, _ => exact root_none ao cap _ w
    | [x], h, hv, _ =>
      rw [List.map_cons, List.map_nil, tree_one]
      exact root_one cap h (hv x (by simp)) _
    | _ :: _ :: _, _, _, hf => simp at hf
  | succ m ih =>
    intro hm w ao l cap k h hcap hn hO hr hv
    match hl : l, h, hv with
    | [], _, _ =>
      rw [List.map_nil, tree_nil]
      exact root_none ao cap _ w
    | [x], h, hv =>
      rw [List.map_cons, List.map_nil, tree_one]
      exact root_one cap h (hv x (by simp)) _
    | x :: y :: r, h, hv =>
      rw [← hl] at hcap hn hO hr h hv ⊢
      have hl2 : 2 ≤ l.length := by rw [hl]; simp
      have hd : 256 - (m + 1) < 256 := by omega
      have hdd : 256 - (m + 1) = 255 - m := by omega
      have hd1 : wrap64 (((256 - (m + 1) : Nat) : Int) + 1) = ((256 - m : Nat) : Int) := by unfold wrap64; omega
      rw [tree_two (by rw [List.length_map]; exact hl2), Tr.dig]
      refine root_many cap _ hd h hl2 hcap hn _ _ (Tr.dig_length _) (Tr.dig_length _) fun n hnl hb0 hb1 w' a => ?_
      have e0 : ∀ i p, i < n → (l.map Pr.ent)[i]? = some p → kbit p.1 (256 - (m + 1)) = 0 := fun i p hi hp => by
        rw [List.getElem?_map] at hp
        cases hx : l[i]? with
        | none => rw [hx] at hp; cases hp
        | some x =>
          rw [hx] at hp
          cases hp
          exact hb0 i x hi hx
      have e1 : ∀ p, (l.map Pr.ent)[n]? = some p → kbit p.1 (256 - (m + 1)) = 1 := fun p hp => by
        rw [List.getElem?_map] at hp
        cases hx : l[n]? with
        | none => rw [hx] at hp; cases hp
        | some x =>
          rw [hx] at hp
          cases hp
          exact hb1 x hx
      obtain ⟨s0, s1⟩ := part_sides hO hd hr e0 e1
      obtain ⟨k0, ok0⟩ := hO.sides 0 (by omega)
      obtain ⟨k1, ok1⟩ := hO.sides 1 (by omega)
      rw [show 256 - (m + 1) + 1 = 256 - m by omega] at ok0 ok1
      rw [hdd] at s0 s1 ok0 ok1
      rw [hd1, s0, s1, ← List.map_take, ← List.map_drop]
      rw [s0, ← List.map_take] at ok0
      rw [s1, ← List.map_drop] at ok1
      have t0 := ih (by omega) cap ((h.keep a (fun _ h => h.elim)).take n) (by rw [List.length_take]; omega) (by rw [List.length_take]; omega) ok0 (by rw [List.map_take]; exact hr.take n) (fun x hx => hv x (List.mem_of_mem_take hx))
      have t1 := ih (by omega) (cap - n) ((h.keep a (fun _ h => h.elim)).drop n cap hcap) (by rw [List.length_drop]; omega) (by rw [List.length_drop]; omega) ok1 (by rw [List.map_drop]; exact hr.drop n) (fun x hx => hv x (List.mem_of_mem_drop hx))
      rw [List.length_take, Nat.min_eq_left hnl] at t0
      rw [List.length_drop] at t1
      exact ⟨t0, t1⟩
end Go.Proofs.YtpeebeebakjpdaaGreat.Law9
