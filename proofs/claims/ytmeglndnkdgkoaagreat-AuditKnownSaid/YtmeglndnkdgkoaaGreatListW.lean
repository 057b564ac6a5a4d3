/- list: which keys have a top's first bits, the key behind a key, how many entries stand ahead of a key. -/
import Derived.Test.YtmeglndnkdgkoaaGreatList1
import Derived.Test.YtmeglndnkdgkoaaGreatCmp
import Derived.Test.YtmeglndnkdgkoaaGreatTurns9
import Derived.Deep.LoopGhost
namespace Go.Proofs.YtmeglndnkdgkoaaGreat.Store
open Go Go.RowKit Go.Sort Go.Proofs.YtmeglndnkdgkoaaGreat Go.Proofs.YtmeglndnkdgkoaaGreat.ShaW Go.Proofs.YtmeglndnkdgkoaaGreat.Path
set_option maxHeartbeats 6400000
set_option linter.unusedVariables false

theorem cmp_adds (a b : List UInt8) (ha : a.length = 32) (hb : b.length = 32) (w : World) :
    Calls Tryz.prog 172 #[.agg (brow a), .agg (brow b)] w fun e w' => e = .returned (.int .i64 (Lib.compareBytes a b)) ∧ Adds w w' :=
  (Path.Compare_ok a b ha hb w).mono fun e w' ⟨he, q, os, hw⟩ => ⟨he, by
    subst hw
    refine ⟨rfl, rfl, rfl, by simp [grow], fun k hk _ => ?_⟩
    show (w.heap ++ os)[k]? = _
    rw [Array.getElem?_append_left hk]⟩
theorem cmp_is (a b : List UInt8) : Lib.compareBytes a b = -1 ∨ Lib.compareBytes a b = 0 ∨ Lib.compareBytes a b = 1 := by
  induction a generalizing b with
  | nil => cases b <;> simp [Lib.compareBytes]
  | cons x a ih =>
    cases b with
    | nil => simp [Lib.compareBytes]
    | cons y b =>
      unfold Lib.compareBytes
      split
      · exact .inl rfl
      · split
        · exact .inr (.inr rfl)
        · exact ih b
set_option maxRecDepth 100000 in
theorem Under_ok (a b : List UInt8) (ha : a.length = 32) (hb : b.length = 32) (d : Nat) (hd : d ≤ 256) (w : World) :
    Calls Tryz.prog 197 #[.agg (brow a), .agg (brow b), .int .i64 (d : Int)] w fun e w' => e = .returned (.bool (decide (d ≤ common a b))) ∧ Adds w w' := by
  obtain ⟨A, hA⟩ : ∃ A, A = brow a := ⟨_, rfl⟩
  obtain ⟨B, hB⟩ : ∃ B, B = brow b := ⟨_, rfl⟩
  have hAs : A.size = 32 := by rw [hA, brow_size, ha]
  have hBs : B.size = 32 := by rw [hB, brow_size, hb]
  have hcm := fun w1 => Common_ok a b ha hb w1
  rw [← hA, ← hB] at hcm ⊢
  have g1 : ((w.alloc (.cells A 31)).alloc (.cells B 31)).heap[w.heap.size]? = some (.cells A 31 (0, 0)) := row_alloc (heap_alloc_new _ _) _
  have g2 : ((w.alloc (.cells A 31)).alloc (.cells B 31)).heap[w.heap.size + 1]? = some (.cells B 31 (0, 0)) := by
    have := heap_alloc_new (w.alloc (.cells A 31)) (.cells B 31)
    simpa using this
  obtain ⟨c, hc⟩ : ∃ c, c = common a b := ⟨_, rfl⟩
  rw [← hc] at hcm ⊢
  have HA := Lib.hid hAs
  have HB := Lib.hid hBs
  have G1 := Lib.hid g1
  have G2 := Lib.hid g2
  have HCM := Lib.hid hcm
  have h0 : (0 : Int) ≤ (d : Int) := by omega
  have h256 : (d : Int) ≤ 256 := by omega
  clear hA hB hAs hBs g1 g2 ha hb hcm hc
  go_enter Tryz.func197, Tryz.ntmps197
  go_wp2_with (first
    | fail
    | ((with_reducible show wpList _ _ _ (⟨_, .load 31 _, _, _, _, _⟩ :: _) _ _); refine wpList_gload_part (by first | rfl | (simp [Region.wanted]; done)) 31 _ rfl w.heap.size 0 rfl G1.out Tryz.underlying31 rfl sizeP (by rw [HA.out]; omega) A (by simp [← HA.out]) ?_)
    | ((with_reducible show wpList _ _ _ (⟨_, .load 31 _, _, _, _, _⟩ :: _) _ _); refine wpList_gload_part (by first | rfl | (simp [Region.wanted]; done)) 31 _ rfl (w.heap.size + 1) 0 rfl G2.out Tryz.underlying31 rfl sizeP (by rw [HB.out]; omega) B (by simp [← HB.out]) ?_)
    | ((with_reducible show wpList _ _ _ (⟨_, .load 31 _, _, _, _, _⟩ :: _) _ _); refine wpList_load_part rfl 31 _ rfl w.heap.size 0 rfl G1.out Tryz.underlying31 rfl sizeP (by rw [HA.out]; omega) A (by simp [← HA.out]) ?_)
    | ((with_reducible show wpList _ _ _ (⟨_, .load 31 _, _, _, _, _⟩ :: _) _ _); refine wpList_load_part rfl 31 _ rfl (w.heap.size + 1) 0 rfl G2.out Tryz.underlying31 rfl sizeP (by rw [HB.out]; omega) B (by simp [← HB.out]) ?_))
  refine (HCM.out _).mono ?_; rintro e w1 ⟨rfl, a1⟩
  have A1 := Lib.hid ((((Ch.refl (fun _ => False) w).alloc (.cells A 31)).alloc (.cells B 31)).trans a1 (fun _ h => h.elim))
  clear a1
  go_wp2
  go_ret
  exact ⟨rfl, A1.out⟩
/-- How many entries stand ahead, when the key does not lie below the node. -/
theorem rank_out {f : View} (hf : Fit f) {h : Int} {d : Nat} {t : Tr} {n : Nd} (hr : Rep f h d t) (hn : f h = some n) (hk : n.kind = 2) {key : List UInt8} (hkl : key.length = 32) (hu : ¬ d ≤ common key n.key) :
    t.rank key = (if Lib.compareBytes n.key key < 0 then t.leaves else 0) := by
  obtain ⟨e1, e2, _⟩ := hr.ents hf
  have hnl := (hf.all _ _ hn).key
  have hne : key ≠ n.key := fun e => by
    rw [e, common_self, hnl] at hu
    have hd1 := (hf.inner hn hk).d1
    have := hr.node_depth hn hf.zero hk
    omega
  obtain ⟨c1, c2, c3⟩ := common_spec key n.key (by omega) hne
  obtain ⟨c, hc⟩ : ∃ c, c = common key n.key := ⟨_, rfl⟩
  rw [← hc] at c1 c2 c3 hu
  have key' : ∀ e ∈ t.ents, (Lib.compareBytes e.1 key < 0 ↔ Lib.compareBytes n.key key < 0) := fun e he => by
    have hp := (e2 n hn e he).1 hk
    refine (cmp_part (d := c) (e1 e he).1 hkl hnl (by omega) (hp.less (by omega)) ((hp.less (by omega)).trans c2.symm) (fun h => c3 ?_)).1
    rw [← h]
    exact hp c (by omega)
  split
  · rename_i hlt
    exact rank_all fun e he => (key' e he).2 hlt
  · rename_i hge
    exact rank_none fun e he h => hge ((key' e he).1 h)
theorem rank_in {f : View} (hf : Fit f) {h : Int} {d : Nat} {n : Nd} {l r : Tr} (hn : f h = some n) (hk : n.kind = 2) (hd : n.depth = (d : Nat)) (hl : Rep f n.left (d + 1) l) (hr : Rep f n.right (d + 1) r) {key : List UInt8} (hkl : key.length = 32) (hu : d ≤ common key n.key) :
    (Tr.node l r).rank key = if kbit key d = 1 then l.leaves + r.rank key else l.rank key := by
  obtain ⟨s0, s1⟩ := Rep.sides hf hn hk hd hl hr
  have hnl := (hf.all _ _ hn).key
  have hp := pre_common hkl hnl hu
  have hd1 := (hf.inner hn hk).d1
  have ll := (hl.ents hf).1
  have lr := (hr.ents hf).1
  rw [Tr.rank_node]
  by_cases hb : kbit key d = 1
  · rw [if_pos hb, rank_all fun e he => ?_]
    obtain ⟨p, q⟩ := s0 e he
    rw [cmp_bits e.1 key d (by rw [(ll e he).1, hkl]) (by rw [(ll e he).1]; omega) (p.trans hp.symm) q hb]
    decide
  · have hb0 : kbit key d = 0 := (kbit_cases key d).resolve_right hb
    rw [if_neg hb, rank_none (t := r) fun e he h => ?_]
    · rfl
    · obtain ⟨p, q⟩ := s1 e he
      have h2 := cmp_bits key e.1 d (by rw [(lr e he).1, hkl]) (by rw [hkl]; omega) (hp.trans p.symm) hb0 q
      have := cmp_lt_trans e.1 key e.1 h (by rw [h2]; decide)
      rw [cmp_self] at this
      omega
theorem size_is {w : World} {s : Nat} {F : Nat → Prop} {σ : SlabSt Nd} (h : At w s F σ) (G : Good σ) {n : Int} {d : Nat} {t : Tr} (hr : Rep (sk σ) n d t) : (nd σ n).size = (t.leaves : Int) ∧ t.leaves ≤ 65536 := by
  have h1 := hr.size G.fit
  rw [ndF_sk] at h1
  have h2 := ents_le G hr
  rw [Tr.ents_length] at h2
  have := h.len
  have := h.room
  refine ⟨?_, by omega⟩
  show (stat (nd σ n)).size = _
  rw [h1]
  unfold wrap64
  omega
set_option maxRecDepth 100000 in
/-- rank. -/
theorem rank_ok {w : World} {s : Nat} {F : Nat → Prop} {σ : SlabSt Nd} (h : At w s F σ) (G : Good σ) {root : Int} {t : Tr} (hr : Rep (sk σ) root 0 t) (key : List UInt8) (hk : key.length = 32) :
    Calls Tryz.prog 171 #[.pointer (some ⟨s, 0, none⟩), .int .i64 root, .agg (brow key)] w fun e w' => e = .returned (.int .i64 (t.rank key : Nat)) ∧ Adds w w' := by
  obtain ⟨K, hK⟩ : ∃ K, K = brow key := ⟨_, rfl⟩
  have hKs : K.size = 32 := by rw [hK, brow_size, hk]
  rw [← hK]
  obtain ⟨all, hall⟩ : ∃ all, all = t.rank key := ⟨_, rfl⟩
  have hal : all ≤ 65536 := by
    have := rank_from t key
    have := (size_is h G hr).2
    omega
  obtain ⟨Z, hZ⟩ : ∃ Z, Z = brow (List.replicate 32 0) := ⟨_, rfl⟩
  have hzp := zeroP
  rw [← hZ] at hzp
  have hZs : Z.size = 32 := by rw [hZ]; rfl
  obtain ⟨wb, hwb⟩ : ∃ wb, wb = w.alloc (.cells K 31) := ⟨_, rfl⟩
  have hab : Adds w wb := by rw [hwb]; exact (Ch.refl _ _).alloc _
  have hrb : wb.heap[w.heap.size]? = some (.cells K 31 (0, 0)) := by rw [hwb]; exact heap_alloc_new _ _
  obtain ⟨b0, hb0⟩ : ∃ b0, b0 = w.heap.size := ⟨_, rfl⟩
  rw [← hb0] at hrb
  have HAT := Lib.hid (h.adds hab)
  have HG := Lib.hid G
  have HR := Lib.hid (And.intro hr hall)
  have HK := Lib.hid (And.intro hK (And.intro hKs hk))
  have HWB := Lib.hid (And.intro hwb hb0)
  have HB := Lib.hid (And.intro hab hrb)
  have HZ := Lib.hid (And.intro hzp hZs)
  have HAL := Lib.hid hal
  rw [← hall]
  clear h G hr hall hK hKs hk hwb hab hrb hzp hZs hZ hal
  go_enter Tryz.func171, Tryz.ntmps171
  go_wp2
  rw [← HWB.out.1]
  rw [← HWB.out.2]
  clear hb0 HWB
  go_loopg [7, 8] 257 (fun g s7 s8 wr => ∃ (c : Int) (d n : Nat) (u : Tr), s7 = .int .i64 (n : Nat) ∧ s8 = .int .i64 c ∧ Rep (sk σ) c d u ∧ n + u.rank key = all ∧ d + g = 257 ∧ d ≤ 256 ∧ Adds wb wr)
  case atStart => exact ⟨root, 0, 0, t, rfl, rfl, HR.out.1, by rw [HR.out.2]; omega, rfl, by omega, Ch.refl _ _⟩
  case round =>
    obtain ⟨c, d, n, u, rfl, rfl, hu, hn, hg, hd, hA⟩ := hrel
    have hAt := HAT.out.adds hA
    have hrow := hA.row HB.out.2 id
    have hnb : n ≤ 65536 := by have := HAL.out; omega
    have HA := Lib.hid (And.intro hA hrow)
    have HN := Lib.hid (And.intro hn hg)
    have HU := Lib.hid hu
    have hlv := (size_is hAt HG.out hu).2
    have hsz := (size_is hAt HG.out hu).1
    have hkd := Kind_ok hAt c
    have hky := fun w1 (a : Adds wr w1) => Key_ok (hAt.adds a) c
    have hdp := fun w1 (a : Adds wr w1) => Depth_ok (hAt.adds a) c
    have hsi := fun w1 (a : Adds wr w1) => Size_ok (hAt.adds a) c
    have hsd := fun w1 (a : Adds wr w1) => Sides_ok (hAt.adds a) c
    rw [hsz] at hsi
    by_cases h0 : c = 0
    · subst h0
      have hu0 := hu.zero_nil HG.out.fit.zero
      subst hu0
      have hna : n = all := by simpa [Tr.rank, Tr.ents] using hn
      subst hna
      clear hA hu hn hg hd hAt hrow hlv hsz hkd hky hdp hsi hsd
      go_wp2
      go_ret
      exact ⟨rfl, HB.out.1.trans HA.out.1 (fun _ h => h.elim)⟩
    · have hc0 : (c != 0) = true := by simpa using h0
      have hc0' : decide (c = 0) = false := decide_eq_false h0
      obtain ⟨x, hx⟩ := hu.live.resolve_left h0
      have hkl : x.key.length = 32 := (HG.out.fit.all _ _ hx).key
      obtain ⟨q1, q2, q3, q4, q5, q6, q7⟩ := has_sk hx
      rw [q2] at hkd
      rw [q6] at hky
      obtain ⟨T, hT⟩ : ∃ T, T = brow x.key := ⟨_, rfl⟩
      have hTs : T.size = 32 := by rw [hT, brow_size, hkl]
      have hT1 : ∀ v ∈ T.toList, v.oneCell' = true := by rw [hT]; exact brow_one _
      have hcm := cmp_adds x.key key hkl HK.out.2.2
      rw [← hT, ← HK.out.1] at hcm
      rw [← hT] at hky
      have HT := Lib.hid (And.intro hT (And.intro hTs hT1))
      have HKY := Lib.hid hky
      have HCM := Lib.hid hcm
      clear hT hTs hT1 hky hcm hc0' h0
      by_cases hk2 : x.kind = 2
      · rw [hk2] at hkd
        have HKD := Lib.hid hkd
        obtain ⟨l, r, hdx, hl, hr, rfl⟩ : ∃ l r, x.depth = (d : Nat) ∧ Rep (sk σ) x.left (d + 1) l ∧ Rep (sk σ) x.right (d + 1) r ∧ u = .node l r := by
          cases hu with
          | nil => rw [HG.out.fit.zero] at hx; cases hx
          | leaf hn' h1 => rw [hx] at hn'; cases hn'; omega
          | node hn' _ h2 hl hr => rw [hx] at hn'; cases hn'; exact ⟨_, _, h2, hl, hr, rfl⟩
        have hd1 := (HG.out.fit.inner hx hk2).d1
        have hd255 : d ≤ 255 := by omega
        rw [show depth σ c = (d : Int) by unfold depth; rw [q1, if_pos rfl, q3, hdx]] at hdp
        have hun := Under_ok key x.key HK.out.2.2 hkl d (by omega)
        rw [← HK.out.1, ← HT.out.1] at hun
        have HDP := Lib.hid hdp
        have HUN := Lib.hid hun
        clear hdp hun hkd
        have huni := HU.out
        go_wp2_with fail
        refine HKD.out.mono ?_; rintro e w1 ⟨rfl, a1⟩
        have A1 := Lib.hid a1
        clear a1 huni
        go_wp2_with fail
        refine (HDP.out _ A1.out).mono ?_; rintro e w2 ⟨rfl, a2⟩
        have A2 := Lib.hid (A1.out.trans a2 (fun _ h => h.elim))
        clear a2 A1
        go_wp2_with fail
        refine (HKY.out _ A2.out).mono ?_; rintro e w3 ⟨rfl, a3⟩
        have A3 := Lib.hid (A2.out.trans a3 (fun _ h => h.elim))
        clear a3 A2
        obtain ⟨w4, hw4⟩ : ∃ w4, w4 = (w3.alloc (.cells Z 31)).setRow w3.heap.size T := ⟨_, rfl⟩
        have r4 : w4.heap[w3.heap.size]? = some (.cells T 31 (0, 0)) := by rw [hw4]; exact row_setRow_same (heap_alloc_new _ _) _
        have a4 : Adds wr w4 := by rw [hw4]; exact (A3.out.alloc _).setRow (.inr A3.out.size) _
        have k4 := a4.row HA.out.2 id
        have R4 := Lib.hid (And.intro r4 (And.intro a4 k4))
        have HW4 := Lib.hid hw4
        clear hw4 r4 a4 k4
        go_upto_region 10 with (first
          | fail
          | ((with_reducible show wpList _ _ _ (⟨_, .alloc 31, _, _, _, _⟩ :: _) _ _); refine wpList_alloc_is rfl 31 rfl (.agg Z) HZ.out.1 ?_; dsimp only [Value.cells]; try simp only [World.size_alloc])
          | ((with_reducible show wpList _ _ _ (⟨_, .store 31 _ _, _, _, _, _⟩ :: _) _ _); refine wpList_store_part rfl 31 _ _ rfl w3.heap.size 0 T rfl rfl (heap_alloc_new _ _) (by rw [sizeP, HT.out.2.1]) (by rw [HT.out.2.1, HZ.out.2]; omega) HT.out.2.2 T (by rw [splice_all _ _ (by rw [Array.length_toList, Array.length_toList, HT.out.2.1, HZ.out.2])]) ?_))
        rw [← HW4.out]
        go_wp2_with (first
          | fail
          | ((with_reducible show wpList _ _ _ (⟨_, .load 31 _, _, _, _, _⟩ :: _) _ _); refine wpList_load_part rfl 31 _ rfl w3.heap.size 0 rfl R4.out.1 Tryz.underlying31 rfl sizeP (by rw [HT.out.2.1]; omega) T (by have := HT.out.2.1; simp [← this]) ?_)
          | ((with_reducible show wpList _ _ _ (⟨_, .load 31 _, _, _, _, _⟩ :: _) _ _); refine wpList_load_part rfl 31 _ rfl b0 0 rfl R4.out.2.2 Tryz.underlying31 rfl sizeP (by rw [HK.out.2.1]; omega) K (by have := HK.out.2.1; simp [← this]) ?_))
        refine (HUN.out _).mono ?_; rintro e w5 ⟨rfl, a5⟩
        have R5 := Lib.hid (And.intro (a5.row R4.out.1 id) (And.intro (R4.out.2.1.trans a5 (fun _ h => h.elim)) (a5.row R4.out.2.2 id)))
        clear a5
        have HX := Lib.hid (And.intro hx (And.intro hdx (And.intro hl (And.intro hr hk2))))
        clear hx hdx hl hr q1 q2 q3 q6 q7 hk2
        by_cases hud : d ≤ common key x.key
        · rw [decide_eq_true hud]
          have hin := rank_in HG.out.fit HX.out.1 HX.out.2.2.2.2 HX.out.2.1 HX.out.2.2.1 HX.out.2.2.2.1 HK.out.2.2 hud
          obtain ⟨nl, hnl⟩ : ∃ nl, nl = x.left := ⟨_, rfl⟩
          obtain ⟨nr, hnr⟩ : ∃ nr, nr = x.right := ⟨_, rfl⟩
          rw [q4, q5, ← hnl, ← hnr] at hsd
          have hsl := (size_is hAt HG.out HX.out.2.2.1)
          have hss := fun w1 (a : Adds wr w1) => Size_ok (hAt.adds a) x.left
          rw [hsl.1, ← hnl] at hss
          have hbt := Bit_ok key HK.out.2.2 (d : Int)
          rw [← HK.out.1, bit_in (by omega)] at hbt
          have HSD := Lib.hid hsd
          have HSS := Lib.hid hss
          have HBT := Lib.hid hbt
          have HIN := Lib.hid hin
          have HNN := Lib.hid (And.intro hnl hnr)
          obtain ⟨lv, hlv2⟩ : ∃ lv, lv = l.leaves := ⟨_, rfl⟩
          have hlv3 : lv ≤ 65536 := by rw [hlv2]; exact hsl.2
          rw [← hlv2] at HSS
          have HLV := Lib.hid (And.intro hlv2 hlv3)
          have hws : n + lv ≤ 131072 := by omega
          have hwn : wrap64 ((n : Int) + (lv : Int)) = ((n + lv : Nat) : Int) := by unfold wrap64; omega
          clear hud hin hnl hnr hsd hsl hss hbt hsi hsz hlv hlv2 hlv3 hA hu hn hg hd hAt hrow hd1
          go_wp2_with fail
          refine (HSD.out _ R5.out.2.1).mono ?_; rintro e w6 ⟨rfl, a6⟩
          have R6 := Lib.hid (And.intro (R5.out.2.1.trans a6 (fun _ h => h.elim)) (a6.row R5.out.2.2 id))
          clear a6
          go_wp2_with (first
            | fail
            | ((with_reducible show wpList _ _ _ (⟨_, .load 31 _, _, _, _, _⟩ :: _) _ _); refine wpList_load_part rfl 31 _ rfl b0 0 rfl R6.out.2 Tryz.underlying31 rfl sizeP (by rw [HK.out.2.1]; omega) K (by have := HK.out.2.1; simp [← this]) ?_))
          refine (HBT.out _).mono ?_; rintro e w7 ⟨rfl, a7⟩
          have R7 := Lib.hid (R6.out.1.trans a7 (fun _ h => h.elim))
          clear a7
          rcases kbit_cases key d with hb | hb
          · rw [hb]
            have hin := HIN.out
            rw [if_neg (by omega)] at hin
            have HIN2 := Lib.hid hin
            clear hin hb hws hwn HIN
            go_wp2_with fail
            go_roundg (gk - 1)
            case measure => have := HN.out; omega
            case rel => exact ⟨nl, d + 1, n, l, rfl, rfl, by rw [HNN.out.1]; exact HX.out.2.2.1, by rw [← HIN2.out]; exact HN.out.1, by have := HN.out; omega, by omega, HA.out.1.trans R7.out (fun _ h => h.elim)⟩
          · rw [hb]
            have hin := HIN.out
            rw [if_pos hb] at hin
            have HIN2 := Lib.hid hin
            clear hin hb HIN
            go_wp2_with fail
            refine (HSS.out _ R7.out).mono ?_; rintro e w8 ⟨rfl, a8⟩
            have R8 := Lib.hid (R7.out.trans a8 (fun _ h => h.elim))
            clear a8
            go_wp2_with fail
            go_roundg (gk - 1)
            case measure => have := HN.out; omega
            case rel => exact ⟨nr, d + 1, n + lv, r, by first | rfl | rw [hwn] | (congr 1), rfl, by rw [HNN.out.2]; exact HX.out.2.2.2.1, by have h1 := HIN2.out; have h2 := HN.out.1; have h3 := HLV.out.1; omega, by have := HN.out; omega, by omega, HA.out.1.trans R8.out (fun _ h => h.elim)⟩
        · rw [decide_eq_false hud]
          have hout := rank_out HG.out.fit (Rep.node HX.out.1 HX.out.2.2.2.2 HX.out.2.1 HX.out.2.2.1 HX.out.2.2.2.1) HX.out.1 HX.out.2.2.2.2 HK.out.2.2 hud
          obtain ⟨lv, hlv2⟩ : ∃ lv, lv = (Tr.node l r).leaves := ⟨_, rfl⟩
          rw [← hlv2] at hout hsi hlv
          have HSI := Lib.hid hsi
          have hwn : wrap64 ((n : Int) + (lv : Int)) = ((n + lv : Nat) : Int) := by unfold wrap64; omega
          obtain ⟨cv, hcv⟩ : ∃ cv, cv = Lib.compareBytes x.key key := ⟨_, rfl⟩
          rw [← hcv] at HCM hout
          by_cases hlt : cv < 0
          · rw [if_pos hlt] at hout
            have HO := Lib.hid hout
            clear hud hout hlv2 hcv hsi hsz hsd hA hu hn hg hd hAt hrow hd1
            go_wp2_with (first
              | fail
              | ((with_reducible show wpList _ _ _ (⟨_, .load 31 _, _, _, _, _⟩ :: _) _ _); refine wpList_load_part rfl 31 _ rfl w3.heap.size 0 rfl R5.out.1 Tryz.underlying31 rfl sizeP (by rw [HT.out.2.1]; omega) T (by have := HT.out.2.1; simp [← this]) ?_)
              | ((with_reducible show wpList _ _ _ (⟨_, .load 31 _, _, _, _, _⟩ :: _) _ _); refine wpList_load_part rfl 31 _ rfl b0 0 rfl R5.out.2.2 Tryz.underlying31 rfl sizeP (by rw [HK.out.2.1]; omega) K (by have := HK.out.2.1; simp [← this]) ?_))
            refine (HCM.out _).mono ?_; rintro e w6 ⟨rfl, a6⟩
            have R6 := Lib.hid (R5.out.2.1.trans a6 (fun _ h => h.elim))
            clear a6
            go_wp2_with fail
            refine (HSI.out _ R6.out).mono ?_; rintro e w7 ⟨rfl, a7⟩
            have R7 := Lib.hid (R6.out.trans a7 (fun _ h => h.elim))
            clear a7
            go_wp2_with fail
            go_ret
            have hall : n + lv = all := by have := HO.out; have := HN.out.1; omega
            exact ⟨by rw [← hall]; first | rfl | rw [hwn], HB.out.1.trans (HA.out.1.trans R7.out (fun _ h => h.elim)) (fun _ h => h.elim)⟩
          · rw [if_neg hlt] at hout
            have HO := Lib.hid hout
            clear hud hout hlv2 hcv hsi hsz hsd hA hu hn hg hd hAt hrow hd1 hwn
            go_wp2_with (first
              | fail
              | ((with_reducible show wpList _ _ _ (⟨_, .load 31 _, _, _, _, _⟩ :: _) _ _); refine wpList_load_part rfl 31 _ rfl w3.heap.size 0 rfl R5.out.1 Tryz.underlying31 rfl sizeP (by rw [HT.out.2.1]; omega) T (by have := HT.out.2.1; simp [← this]) ?_)
              | ((with_reducible show wpList _ _ _ (⟨_, .load 31 _, _, _, _, _⟩ :: _) _ _); refine wpList_load_part rfl 31 _ rfl b0 0 rfl R5.out.2.2 Tryz.underlying31 rfl sizeP (by rw [HK.out.2.1]; omega) K (by have := HK.out.2.1; simp [← this]) ?_))
            refine (HCM.out _).mono ?_; rintro e w6 ⟨rfl, a6⟩
            have R6 := Lib.hid (R5.out.2.1.trans a6 (fun _ h => h.elim))
            clear a6
            go_wp2_with fail
            go_ret
            have hall : n = all := by have := HO.out; have := HN.out.1; omega
            exact ⟨by rw [← hall]; rfl, HB.out.1.trans (HA.out.1.trans R6.out (fun _ h => h.elim)) (fun _ h => h.elim)⟩
      · have hk1 := (HG.out.fit.leaf hx hk2).1
        rw [hk1] at hkd
        have HKD := Lib.hid hkd
        have hul : u = .leaf x.key x.value := by
          cases hu with
          | nil => rw [HG.out.fit.zero] at hx; cases hx
          | leaf hn' h1 => rw [hx] at hn'; cases hn'; rfl
          | node hn' h1 _ _ _ => rw [hx] at hn'; cases hn'; omega
        obtain ⟨cv, hcv⟩ : ∃ cv, cv = Lib.compareBytes x.key key := ⟨_, rfl⟩
        rw [← hcv] at HCM
        have hrk : u.rank key = if cv < 0 then 1 else 0 := by
          rw [hul, hcv]
          unfold Tr.rank Tr.ents ltK
          by_cases hlt : Lib.compareBytes x.key key < 0 <;> simp [hlt]
        have hwn : wrap64 ((n : Int) + 1) = ((n + 1 : Nat) : Int) := by unfold wrap64; omega
        by_cases hlt : cv < 0
        · rw [if_pos hlt] at hrk
          have HRK := Lib.hid hrk
          clear hkd hul hcv hrk hsi hsz hsd hdp hA hu hn hg hd hAt hrow q1 q2 q3 q4 q5 q6 q7 hx hk1 hk2 hlv
          go_wp2_with fail
          refine HKD.out.mono ?_; rintro e w1 ⟨rfl, a1⟩
          have A1 := Lib.hid (And.intro a1 (a1.row HA.out.2 id))
          clear a1
          go_wp2
          refine wp_region_plan (fun w0 => w0.heap[b0]? = some (.cells K 31 (0, 0))) 6 [(0, false), (1, false), (3, false), (2, true), (4, true), (5, false)] (by kernel_rfl) (by kernel_rfl) ?_ ?_
          · exact row_drew A1.out.2
          iterate 2
            refine plan_look rfl rfl (fun w0 hS => (by clear hS; go_simp; try rfl)) ?_
            simp only [Act.put, List.setIfInBounds_toArray, List.set_cons_succ, List.set_cons_zero]
          refine plan_load_part (cur := K) (t := 31) (fr := (0, 0)) rfl rfl 31 _ rfl b0 0 32 rfl (fun w0 hS => hS) Tryz.underlying31 rfl sizeP (by rw [HK.out.2.1]; omega) K (by have := HK.out.2.1; simp [← this]) ?_
          simp only [Act.put, List.setIfInBounds_toArray, List.set_cons_succ, List.set_cons_zero]
          refine plan_do rfl ?_
          go_wp2_with fail
          refine (HKY.out _ A1.out.1.drew).mono ?_; rintro e w2 ⟨rfl, a2⟩
          have A2 := Lib.hid (And.intro (A1.out.1.drew.trans a2 (fun _ h => h.elim)) (a2.row (row_drew A1.out.2) id))
          clear a2
          dsimp only
          go_step
          refine wpList_nil ?_
          change _ ∧ _
          refine ⟨A2.out.2, ?_⟩
          refine plan_do rfl ?_
          go_wp2_with fail
          refine (HCM.out _).mono ?_; rintro e w3 ⟨rfl, a3⟩
          have A3 := Lib.hid (And.intro (A2.out.1.trans a3 (fun _ h => h.elim)) (a3.row A2.out.2 id))
          clear a3
          dsimp only
          go_step
          refine wpList_nil ?_
          change _ ∧ _
          refine ⟨A3.out.2, ?_⟩
          refine plan_look (v := .bool true) rfl rfl (fun w0 hS => (by clear hS; go_simp; try rfl)) ?_
          simp only [Act.put, List.setIfInBounds_toArray, List.set_cons_succ, List.set_cons_zero]
          refine plan_end ?_; simp only [List.drop_succ_cons, List.drop_zero]
          go_wp2
          refine NoPanic.normal ?_
          go_wp2_with fail
          go_ret
          have hall : n + 1 = all := by have := HRK.out; have := HN.out.1; omega
          exact ⟨by rw [← hall]; first | rfl | rw [hwn], HB.out.1.trans (HA.out.1.trans A3.out.1 (fun _ h => h.elim)) (fun _ h => h.elim)⟩
        · rw [if_neg hlt] at hrk
          have HRK := Lib.hid hrk
          have hlt' : decide (cv < 0) = false := decide_eq_false hlt
          clear hkd hul hcv hrk hsi hsz hsd hdp hA hu hn hg hd hAt hrow q1 q2 q3 q4 q5 q6 q7 hx hk1 hk2 hlv hlt hwn
          go_wp2_with fail
          refine HKD.out.mono ?_; rintro e w1 ⟨rfl, a1⟩
          have A1 := Lib.hid (And.intro a1 (a1.row HA.out.2 id))
          clear a1
          go_wp2
          refine wp_region_plan (fun w0 => w0.heap[b0]? = some (.cells K 31 (0, 0))) 6 [(0, false), (1, false), (3, false), (2, true), (4, true), (5, false)] (by kernel_rfl) (by kernel_rfl) ?_ ?_
          · exact row_drew A1.out.2
          iterate 2
            refine plan_look rfl rfl (fun w0 hS => (by clear hS; go_simp; try rfl)) ?_
            simp only [Act.put, List.setIfInBounds_toArray, List.set_cons_succ, List.set_cons_zero]
          refine plan_load_part (cur := K) (t := 31) (fr := (0, 0)) rfl rfl 31 _ rfl b0 0 32 rfl (fun w0 hS => hS) Tryz.underlying31 rfl sizeP (by rw [HK.out.2.1]; omega) K (by have := HK.out.2.1; simp [← this]) ?_
          simp only [Act.put, List.setIfInBounds_toArray, List.set_cons_succ, List.set_cons_zero]
          refine plan_do rfl ?_
          go_wp2_with fail
          refine (HKY.out _ A1.out.1.drew).mono ?_; rintro e w2 ⟨rfl, a2⟩
          have A2 := Lib.hid (And.intro (A1.out.1.drew.trans a2 (fun _ h => h.elim)) (a2.row (row_drew A1.out.2) id))
          clear a2
          dsimp only
          go_step
          refine wpList_nil ?_
          change _ ∧ _
          refine ⟨A2.out.2, ?_⟩
          refine plan_do rfl ?_
          go_wp2_with fail
          refine (HCM.out _).mono ?_; rintro e w3 ⟨rfl, a3⟩
          have A3 := Lib.hid (And.intro (A2.out.1.trans a3 (fun _ h => h.elim)) (a3.row A2.out.2 id))
          clear a3
          dsimp only
          go_step
          refine wpList_nil ?_
          change _ ∧ _
          refine ⟨A3.out.2, ?_⟩
          refine plan_look (v := .bool false) rfl rfl (fun w0 hS => (by clear hS; go_simp; try rfl)) ?_
          simp only [Act.put, List.setIfInBounds_toArray, List.set_cons_succ, List.set_cons_zero]
          refine plan_end ?_; simp only [List.drop_succ_cons, List.drop_zero]
          go_wp2
          refine NoPanic.normal ?_
          go_wp2_with fail
          go_ret
          have hall : n = all := by have := HRK.out; have := HN.out.1; omega
          exact ⟨by rw [← hall]; rfl, HB.out.1.trans (HA.out.1.trans A3.out.1 (fun _ h => h.elim)) (fun _ h => h.elim)⟩
end Go.Proofs.YtmeglndnkdgkoaaGreat.Store
