/- StoreTrees: the walk. -/
import Derived.Test.YtfllneenonhonaaDoG7
import Derived.Test.YtfllneenonhonaaBelow7
import Derived.Test.YtfllneenonhonaaRootD
import Derived.Test.YtfllneenonhonaaShaB
import Derived.Test.YtfllneenonhonaaList2
import Derived.Test.YtfllneenonhonaaMapM
namespace Go.Proofs.Ytfllneenonhonaa.Law7
open Go Go.RowKit Go.Proofs.Ytfllneenonhonaa Go.Proofs.Ytfllneenonhonaa.ShaW Go.Proofs.Ytfllneenonhonaa.Path Go.Proofs.Ytfllneenonhonaa.Store Go.Proofs.Ytfllneenonhonaa.Law9
set_option maxHeartbeats 3200000
set_option linter.unusedVariables false

set_option maxRecDepth 100000 in
theorem trees_many (n : Int) (ao : Option Addr) (len cap : Nat) (hl : 200 < len) (w : World) :
    Calls Try.prog 5 #[.int .i64 n, .slice ao len cap] w fun e w' => e = .returned (.bool true) ∧ Adds w w' := by
  have hl' : (200 : Int) < (len : Int) := by omega
  go_enter Try.func5, Try.ntmps5
  go_wp2_with fail
  refine (awake_ok w).mono ?_; rintro e w1 ⟨rfl, h1⟩
  have H1 := Lib.hid h1
  clear h1
  go_wp2
  go_ret
  exact ⟨rfl, H1.out⟩
set_option maxRecDepth 100000 in
theorem trees_low (n : Int) (hn : n < 1) (ao : Option Addr) (len cap : Nat) (hl : len ≤ 200) (w : World) :
    Calls Try.prog 5 #[.int .i64 n, .slice ao len cap] w fun e w' => e = .returned (.bool true) ∧ Adds w w' := by
  have hl' : ¬ (200 : Int) < (len : Int) := by omega
  go_enter Try.func5, Try.ntmps5
  go_wp2_with fail
  refine (awake_ok w).mono ?_; rintro e w1 ⟨rfl, h1⟩
  have H1 := Lib.hid h1
  clear h1
  go_wp2
  go_ret
  exact ⟨rfl, H1.out⟩
set_option maxRecDepth 100000 in
theorem trees_high (n : Int) (hn : 60 < n) (ao : Option Addr) (len cap : Nat) (hl : len ≤ 200) (w : World) :
    Calls Try.prog 5 #[.int .i64 n, .slice ao len cap] w fun e w' => e = .returned (.bool true) ∧ Adds w w' := by
  have hl' : ¬ (200 : Int) < (len : Int) := by omega
  have hn1 : ¬ n < 1 := by omega
  go_enter Try.func5, Try.ntmps5
  go_wp2_with fail
  refine (awake_ok w).mono ?_; rintro e w1 ⟨rfl, h1⟩
  have H1 := Lib.hid h1
  clear h1
  go_wp2
  go_ret
  exact ⟨rfl, H1.out⟩
/-- What is known of a handle that is there: its tree is its entries' own. -/
theorem handle_tree {σ : SlabSt Nd} (G : Store.Good σ) {h : Int} {x : Nd} (hx : sk σ h = some x) :
    ∃ (d m : Nat) (t : Tr) (k : List UInt8), d + m = 256 ∧ Rep (sk σ) h d t ∧ t = tree m t.ents ∧ Ents.Ok t.ents k d ∧ (∀ e ∈ t.ents, e.1.length = 32 ∧ e.2.length ≤ 1024) ∧ (nd σ h).size = wrap64 (t.leaves : Nat) ∧ digestOf σ h = t.dig ∧
      (if x.kind = 2 then depth σ h = (d : Int) ∧ 2 ≤ t.ents.length ∧ (nd σ h).kind = 2 else depth σ h ≤ 0 ∧ d = 0 ∧ (nd σ h).kind ≠ 2 ∧ ((nd σ h).kind : Nat) ≤ 255) := by
  obtain ⟨q1, q2, q3, q4, q5, q6, q7⟩ := has_sk hx
  by_cases hk2 : x.kind = 2
  · have hi := G.fit.inner hx hk2
    have hd0 := hi.d0
    have hd1 := hi.d1
    obtain ⟨d, hd⟩ : ∃ d : Nat, x.depth = (d : Int) := ⟨x.depth.toNat, by omega⟩
    obtain ⟨t, hr⟩ := Rep.ex G.fit (256 - d) d h (by omega) (.inr ⟨x, hx, fun _ => hd⟩)
    obtain ⟨f1, f2, k, f3⟩ := Rep.fine G.fit hr
    have hsz := hr.size G.fit
    rw [ndF_sk] at hsz
    have hm := Rep.many G.fit hr
    refine ⟨d, 256 - d, t, k, by omega, hr, Rep.canon G.fit hr _ (by omega), f3, (hr.ents G.fit).1, hsz, by rw [digestOf_sk]; exact hr.dig G.fit, ?_⟩
    rw [if_pos hk2]
    refine ⟨?_, hm.2.1 ((hm.2.2 x hx).2 hk2), by rw [q2]; exact hk2⟩
    unfold depth
    rw [q1, if_pos rfl, q3, hd]
  · obtain ⟨t, hr⟩ := Rep.ex G.fit 256 0 h (by omega) (.inr ⟨x, hx, fun e => absurd e hk2⟩)
    obtain ⟨f1, f2, k, f3⟩ := Rep.fine G.fit hr
    have hsz := hr.size G.fit
    rw [ndF_sk] at hsz
    obtain ⟨hk1, hlf⟩ := G.fit.leaf hx hk2
    refine ⟨0, 256, t, k, rfl, hr, Rep.canon G.fit hr _ rfl, f3, (hr.ents G.fit).1, hsz, by rw [digestOf_sk]; exact hr.dig G.fit, ?_⟩
    rw [if_neg hk2]
    refine ⟨?_, rfl, by rw [q2, hk1]; decide, by rw [q2, hk1]; decide⟩
    unfold depth
    rw [q1, if_pos rfl, q3, hlf.depth]
    decide
theorem fine_row {w : World} {t : Tr} {base : Nat} {v : Value} {out : List Pr} (h : Store.Told base w v out) (he : out.map Pr.ent = t.ents) {k : List UInt8} {d : Nat} (hO : Ents.Ok t.ents k d) (hv : ∀ e ∈ t.ents, e.1.length = 32 ∧ e.2.length ≤ 1024) (hl : t.ents.length < 100) :
    ∃ ao cap, v = .slice ao out.length cap ∧ PairsAt w ao out ∧ FineP out := by
  obtain ⟨ao, cap, e, hp⟩ := RowP.pairs h.row h.good
  refine ⟨ao, cap, e, hp, ?_, fun x hx => ?_, ?_⟩
  · have := congrArg List.length he
    rw [List.length_map] at this
    omega
  · have := (hv x.ent (he ▸ List.mem_map.2 ⟨x, hx, rfl⟩)).2
    exact this
  · have := hO.nodup
    rw [← he, keysOf_ents] at this
    exact this
theorem row_at' {w : World} {base m : Nat} {ao : Option Addr} {cap : Nat} {l : List Nat} (h : w.ownsRow base 3 1 (.slice ao m cap) m (ints l)) {k : Nat} (hk : k < m) (hl : l.length = m) :
    ∃ g, ao = some ⟨g, 0, none⟩ ∧ w.cell? ⟨g, k, none⟩ = some (.int .i64 (l.getD k 0 : Nat)) := by
  obtain ⟨g, cap', cur, he, hg, h1, h2, h3, h4⟩ := owns_block h (by omega)
  cases he
  refine ⟨g, rfl, row_cell hg (take_get h4 ?_)⟩
  have : k < l.length := by omega
  simp [ints, this]
set_option maxRecDepth 100000 in
theorem trees_good (n : Nat) (hn1 : 1 ≤ n) (hn2 : n ≤ 60) (ao : Option Addr) (len cap : Nat) (hl : len ≤ 200) (w : World) (ha : ActsAt w ao len) :
    Calls Try.prog 5 #[.int .i64 n, .slice ao len cap] w fun e w' => e = .returned (.bool true) ∧ Adds w w' := by
  have hl' : ¬ (200 : Int) < (len : Int) := by omega
  have hn1' : ¬ (n : Int) < 1 := by omega
  have hn2' : ¬ 60 < (n : Int) := by omega
  have HA := Lib.hid ha
  have HN := Lib.hid (And.intro hn1 hn2)
  obtain ⟨Z, hZ⟩ : ∃ Z, Z = brow (List.replicate 32 0) := ⟨_, rfl⟩
  have hzh := zeroH
  rw [← hZ] at hzh
  have hZs : Z.size = 32 := by rw [hZ]; rfl
  have HZ := Lib.hid (And.intro hzh hZs)
  clear ha hZ hzh hZs
  go_enter Try.func5, Try.ntmps5
  go_wp2_with fail
  refine (awake_ok w).mono ?_; rintro e w1 ⟨rfl, h1⟩
  have H1 := Lib.hid h1
  clear h1
  go_wp2_with fail
  refine (New_own n _ hn1 (by omega)).mono ?_; rintro e w2 ⟨s, rfl, h2⟩
  have HS2 := Lib.hid (And.intro (h2.ow.less (G' := fun _ => False) (fun _ h => h.elim)) (show Fine n ⟨n, [], []⟩ from ⟨Good.new n hn1 (by omega), rfl⟩))
  clear h2 hn1 hn2
  go_wp2
  go_loopg [8] len (fun g s8 wr => ∃ (k : Nat) (σ : SlabSt Nd), k ≤ len ∧ g = len - k ∧ s8 = .int .i64 k ∧ Ow w1 wr s σ (fun _ => False) ∧ Fine n σ)
  case atStart => exact ⟨0, _, Nat.zero_le _, rfl, rfl, HS2.out.1, HS2.out.2⟩
  case round =>
    obtain ⟨k, σ, hk, rfl, rfl, hS, hso⟩ := hrel
    have HS := Lib.hid (And.intro hS hso)
    clear hS hso HS2
    by_cases hkl : k < len
    · obtain ⟨g, off, x, rfl, hx, hp⟩ := HA.out k hkl
      obtain ⟨F, f1, f2, f3, f4⟩ := HS.out.1
      have f5 : Adds w wr := H1.out.trans f3 (fun _ h => h.elim)
      obtain ⟨cur, t, fr, hr, hfit, hext⟩ := hp.keep f5 id
      have hxs := Act7.size hx.key
      rw [hxs] at hfit hext
      obtain ⟨C, hC⟩ : ∃ C, C = x.cells := ⟨_, rfl⟩
      have hdo := doG_ok f1 HS.out.2 x (hx.keep f5 (fun _ h => h.elim))
      rw [← hC] at hext hdo hxs
      have hsz : (Try.prog.info? 62).map (·.size) = some 37 := by kernel_rfl
      have HD := Lib.hid hdo
      have HR := Lib.hid (And.intro hr (And.intro hfit (And.intro hext hsz)))
      have HF := Lib.hid (And.intro f1 (And.intro f2 (And.intro f3 f4)))
      have hki : (k : Int) < (len : Int) := by omega
      clear f1 f2 f3 f4 f5 hr hfit hext hdo hC hsz hx hp hxs
      go_wp2_with (first
        | ((with_reducible show wpList _ _ _ (⟨_, .load 62 _, _, _, _, _⟩ :: _) _ _); refine wpList_load_part rfl 62 _ rfl g (off + k * 37) rfl HR.out.1 Try.underlying62 rfl HR.out.2.2.2 HR.out.2.1 C HR.out.2.2.1 ?_))
      refine HD.out.mono ?_; rintro e w3 ⟨⟨v3, rfl⟩, σ', hm, hs'⟩
      have HS' := Lib.hid (And.intro (Ow.moved HF.out.1 HF.out.2.1 HF.out.2.2.1 HF.out.2.2.2 hm).1 hs')
      clear hm hs'
      go_wp2
      go_roundg (len - (k + 1))
      case measure => omega
      case rel => exact ⟨k + 1, σ', by omega, rfl, by go_num, HS'.out.1, HS'.out.2⟩
    · obtain rfl : k = len := by omega
      have hki : ¬ (k : Int) < (k : Int) := by omega
      obtain ⟨F, hF⟩ := HS.out.1.at
      have hhd := Handles_ok hF
      have hsl : σ.slots.length ≤ 60 := by have := hF.len; rw [HS.out.2.room] at this; have := HN.out.2; omega
      have hmem : ∀ i, i < (handles σ).length → ∃ x, sk σ ((handles σ).getD i 0 : Nat) = some x := fun i hi => by
        have hm : (handles σ).getD i 0 ∈ handles σ := by
          rw [List.getD_eq_getElem?_getD, List.getElem?_eq_getElem hi]
          exact List.getElem_mem hi
        obtain ⟨_, _, y, hy⟩ := (mem_occ _ _).1 hm
        exact ⟨_, sk_some hy⟩
      have hhl : (handles σ).length ≤ 60 := by
        have h1 := handles_length (σ := σ)
        have h2 := live_le σ
        omega
      obtain ⟨m, hm⟩ : ∃ m, m = (handles σ).length := ⟨_, rfl⟩
      obtain ⟨L, hL⟩ : ∃ L, L = handles σ := ⟨_, rfl⟩
      rw [← hm, ← hL] at hhd
      have hLm : L.length = m := by rw [hL, hm]
      rw [← hL, hLm] at hmem
      rw [← hm] at hhl
      have HD := Lib.hid hhd
      have HM := Lib.hid (And.intro hLm hmem)
      have HF := Lib.hid (And.intro hF hsl)
      clear hF hhd hsl hmem hm hL hLm
      go_wp2_with fail
      refine HD.out.mono ?_; rintro e w3 ⟨v, rfl, hown, had⟩
      obtain ⟨vo, vc, rfl⟩ := owns_form hown
      have HO := Lib.hid (And.intro hown had)
      clear hown had
      go_wp2
      go_loopg [10, 11, 12, 13, 14] m (fun g s10 s11 s12 s13 s14 wx => ∃ j : Nat, j + g = m ∧ s10 = .int .i64 j ∧ Adds w3 wx)
      case atStart => exact ⟨0, by omega, rfl, Ch.refl _ _⟩
      case round =>
        obtain ⟨j, hj, rfl, hA⟩ := hrel
        have HAX := Lib.hid (And.intro hA (And.intro (HO.out.2.trans hA (fun _ h => h.elim)) (hA.owns HO.out.1 (fun _ _ h => h))))
        clear hA
        by_cases hjm : j = m
        · subst hjm
          have hdg := Digest_ok (HF.out.1.adds HAX.out.2.1) 0
          have heq := eql_keys 66 Try.underlying66 (digestOf σ 0) Tag.emptyD (HF.out.1.digest_length 0) (Tag.digest_length _ _)
          rw [show digestOf σ 0 = Tag.emptyD from rfl] at hdg heq
          simp only [decide_true] at heq
          obtain ⟨E, hE⟩ : ∃ E, E = brow Tag.emptyD := ⟨_, rfl⟩
          have hem := fun w4 => Tag.Empty_ok w4
          rw [← hE] at hdg heq hem
          have HDG := Lib.hid hdg
          have HEM := Lib.hid hem
          clear hdg hem hE
          go_wp2_with fail
          refine HDG.out.mono ?_; rintro e w4 ⟨rfl, a4⟩
          have A4 := Lib.hid (HAX.out.2.1.trans a4 (fun _ h => h.elim))
          clear a4
          go_wp2_with fail
          refine (HEM.out _).mono ?_; rintro e w5 ⟨rfl, a5⟩
          have A5 := Lib.hid (H1.out.trans (HS.out.1.world.trans (A4.out.trans a5 (fun _ h => h.elim)) (fun _ h => h.elim)) (fun _ h => h.elim))
          clear a5
          go_wp2
          go_ret
          exact ⟨rfl, A5.out⟩
        · have hjl : j < m := by omega
          obtain ⟨g, rfl⟩ : ∃ g, gk = g + 1 := ⟨gk - 1, by omega⟩
          obtain ⟨gb, rfl, hcell⟩ := row_at' HAX.out.2.2 hjl HM.out.1
          obtain ⟨x, hx⟩ := HM.out.2 j hjl
          obtain ⟨y, hy⟩ : ∃ y : Int, y = (L.getD j 0 : Nat) := ⟨_, rfl⟩
          rw [← hy] at hcell hx
          have hji : (j : Int) < (m : Int) := by omega
          obtain ⟨d, mm, t, kk, t1, t2, t3, t4, t5, t6, t7, t8⟩ := handle_tree HS.out.2.good hx
          have hel : t.ents.length ≤ 60 := by have := ents_le HS.out.2.good t2; have := HF.out.2; omega
          have hbl := below_ok (HF.out.1.adds HAX.out.2.1) HS.out.2.good (by omega) t2 (by omega)
          have HBL := Lib.hid hbl
          have HT1 := Lib.hid t1
          have HT3 := Lib.hid t3
          have HT4 := Lib.hid t4
          have HT5 := Lib.hid t5
          have HT6 := Lib.hid t6
          have HT7 := Lib.hid t7
          have HT8 := Lib.hid t8
          have HTE := Lib.hid hel
          clear hbl hy hx t1 t2 t3 t4 t5 t6 t7 t8 hel
          go_wp2_with fail
          refine HBL.out.mono ?_; rintro e w4 ⟨v4, out, rfl, ht4, he4, a4⟩
          obtain ⟨po, pc, rfl, hp4, hf4⟩ := fine_row ht4 he4 HT4.out HT5.out (by have := HTE.out; omega)
          have hon : out.length = t.ents.length := by rw [← he4, List.length_map]
          have hw4 := HAX.out.2.1.trans a4 (fun _ h => h.elim)
          have hdp := Depth_ok (HF.out.1.adds hw4) y
          have hrd := fun w5 (a : Adds w4 w5) => rootAt_deep pc (hp4.keep a (fun _ h => h.elim)) hf4 mm (by have := HT1.out; omega) (k := kk) (by rw [he4, show 256 - mm = d by have := HT1.out; omega]; exact HT4.out)
          rw [he4, ← HT3.out] at hrd
          have hdg := fun w5 (a : Adds w4 w5) => Digest_ok (HF.out.1.adds (hw4.trans a (fun _ h => h.elim))) y
          have hsi := fun w5 (a : Adds w4 w5) => Size_ok (HF.out.1.adds (hw4.trans a (fun _ h => h.elim))) y
          have hki := fun w5 (a : Adds w4 w5) => Kind_ok (HF.out.1.adds (hw4.trans a (fun _ h => h.elim))) y
          rw [HT7.out] at hdg
          rw [HT6.out] at hsi
          obtain ⟨O, hO⟩ : ∃ O, O = brow t.dig := ⟨_, rfl⟩
          have hos : O.size = 32 := by rw [hO, brow_size]; exact Tr.dig_length _
          have ho1 := brow_one t.dig
          have hneq := neq_keys 66 Try.underlying66 t.dig t.dig (Tr.dig_length _) (Tr.dig_length _)
          simp only [decide_true, Bool.not_true] at hneq
          rw [← hO] at ho1 hneq
          simp only [← hO] at hrd hdg
          obtain ⟨on, hon2⟩ : ∃ on, on = out.length := ⟨_, rfl⟩
          have hsz : wrap64 (t.leaves : Nat) = (on : Int) := by
            rw [← Tr.ents_length, ← hon, ← hon2]
            have := HTE.out
            unfold wrap64
            omega
          simp only [hsz] at hsi
          rw [← hon2] at hrd ⊢
          obtain ⟨dv, hdv⟩ : ∃ dv, dv = depth σ y := ⟨_, rfl⟩
          obtain ⟨kd, hkd⟩ : ∃ kd, kd = (nd σ y).kind := ⟨_, rfl⟩
          rw [← hdv] at hdp
          simp only [← hkd] at hki
          have hmx : max dv 0 = ((256 - mm : Nat) : Int) ∧ (kd = 2 → 2 ≤ on) ∧ on ≤ 60 := by
            have h1 := HT8.out
            have h2 := HT1.out
            have h3 := HTE.out
            rw [← hdv, ← hkd] at h1
            by_cases hk2 : x.kind = 2
            · rw [if_pos hk2] at h1
              exact ⟨by omega, fun _ => by omega, by omega⟩
            · rw [if_neg hk2] at h1
              exact ⟨by omega, fun e => absurd e h1.2.2.1, by omega⟩
          obtain ⟨dd, hdd⟩ : ∃ dd : Nat, dd = 256 - mm := ⟨_, rfl⟩
          rw [← hdd] at hmx
          simp only [← hdd] at hrd
          have HDP := Lib.hid hdp
          have HRD := Lib.hid hrd
          have HDG := Lib.hid hdg
          have HSI := Lib.hid hsi
          have HKI := Lib.hid hki
          have HOO := Lib.hid (And.intro hos ho1)
          have HW4 := Lib.hid (And.intro hw4 a4)
          have HMX := Lib.hid hmx
          have hmx1 := hmx.1
          clear ht4 he4 a4 hp4 hf4 hon hw4 hdp hrd hdg hsi hki hO hos ho1 hon2 hsz hdv hkd hdd HT1 HT3 HT4 HT5 HT6 HT7 HT8 HTE hmx HBL
          go_wp2_with fail
          refine HDP.out.mono ?_; rintro e w5 ⟨rfl, a5⟩
          have A5 := Lib.hid a5
          clear a5
          go_wp2_with fail
          refine (HRD.out _ A5.out).mono ?_; rintro e w6 ⟨rfl, a6⟩
          have A6 := Lib.hid (A5.out.trans a6 (fun _ h => h.elim))
          clear a6
          go_upto_region 17 with (first
            | fail
            | ((with_reducible show wpList _ _ _ (⟨_, .alloc 66, _, _, _, _⟩ :: _) _ _); refine wpList_alloc_is rfl 66 rfl (.agg Z) HZ.out.1 ?_; dsimp only [Value.cells]; try simp only [World.size_alloc])
            | ((with_reducible show wpList _ _ _ (⟨_, .store 66 _ _, _, _, _, _⟩ :: _) _ _); refine wpList_store_part rfl 66 _ _ rfl w6.heap.size 0 O rfl rfl (heap_alloc_new _ _) (by rw [sizeH, HOO.out.1]) (by rw [HOO.out.1, HZ.out.2]; omega) HOO.out.2 O (by rw [splice_all _ _ (by rw [Array.length_toList, Array.length_toList, HOO.out.1, HZ.out.2])]) ?_))
          obtain ⟨B, hB⟩ : ∃ B, B = w6.heap.size := ⟨_, rfl⟩
          obtain ⟨w7, hw7⟩ : ∃ w7, w7 = (w6.alloc (.cells Z 66)).setRow w6.heap.size O := ⟨_, rfl⟩
          have r7 : w7.heap[B]? = some (.cells O 66 (0, 0)) := by rw [hw7, hB]; exact row_setRow_same (heap_alloc_new _ _) _
          have a7 : Adds w4 w7 := by rw [hw7]; exact (A6.out.alloc _).setRow (.inr A6.out.size) _
          rw [← hw7, ← hB]
          have H7 := Lib.hid (And.intro r7 a7)
          clear r7 a7 hw7 hB
          have hon60 := HMX.out.2.2
          have hon60' : (on : Int) ≤ 60 := by omega
          by_cases hk2 : kd = 2
          · subst hk2
            have h2on := HMX.out.2.1 rfl
            have h2on' : ¬ (on : Int) < 2 := by omega
            have h2d : decide ((on : Int) < 2) = false := decide_eq_false h2on'
            have h2e : decide (on < 2) = false := decide_eq_false (by omega)
            go_wp2
            refine wp_region_plan (fun wz => wz.heap[B]? = some (.cells O 66 (0, 0))) 28 [(0, false), (1, false), (2, false), (3, false), (4, false), (5, false), (6, true), (7, false), (8, false), (9, false), (10, false), (11, false), (12, false), (13, false), (14, true), (15, false), (16, false), (17, false), (18, false), (19, false), (20, true), (21, false), (22, false), (23, false), (24, false), (25, false), (26, false), (27, false)] (by kernel_rfl) (by kernel_rfl) ?_ ?_
            · exact row_drew H7.out.1
            iterate 1
              refine plan_look rfl rfl (fun w0 hS => (by clear hS; go_simp; try rfl)) ?_
              simp only [Act.put, List.setIfInBounds_toArray, List.set_cons_succ, List.set_cons_zero]
            iterate 2
              refine plan_look (v := .bool false) rfl rfl (fun w0 hS => (by clear hS; go_simp; try rfl)) ?_
              simp only [Act.put, List.setIfInBounds_toArray, List.set_cons_succ, List.set_cons_zero]
            refine Law9.plan_gload_part (cur := O) (t := 66) (fr := (0, 0)) rfl rfl 66 _ rfl B 0 32 rfl (fun w0 hS => hS) Try.underlying66 rfl sizeH (by rw [HOO.out.1]; omega) O (by have := HOO.out.1; simp [← this]) ?_
            simp only [Act.put, List.setIfInBounds_toArray, List.set_cons_succ, List.set_cons_zero]
            iterate 2
              refine plan_look rfl rfl (fun w0 hS => (by clear hS; go_simp; try rfl)) ?_
              simp only [Act.put, List.setIfInBounds_toArray, List.set_cons_succ, List.set_cons_zero]
            refine plan_do rfl ?_
            go_wp2_with fail
            refine (HDG.out _ H7.out.2.drew).mono ?_; rintro e w8 ⟨rfl, a8⟩
            have H8 := Lib.hid (And.intro (a8.row (row_drew H7.out.1) id) (H7.out.2.drew.trans a8 (fun _ h => h.elim)))
            clear a8
            dsimp only
            go_step
            refine wpList_nil ?_
            change _ ∧ _
            refine ⟨H8.out.1, ?_⟩
            refine plan_look (v := .bool false) rfl rfl (fun w0 hS => (by clear hS; have := hneq w0; go_simp; try rfl)) ?_
            simp only [Act.put, List.setIfInBounds_toArray, List.set_cons_succ, List.set_cons_zero]
            iterate 2
              refine plan_look (v := .bool false) rfl rfl (fun w0 hS => (by clear hS; go_simp; try rfl)) ?_
              simp only [Act.put, List.setIfInBounds_toArray, List.set_cons_succ, List.set_cons_zero]
            iterate 4
              refine plan_look rfl rfl (fun w0 hS => (by clear hS; go_simp; try rfl)) ?_
              simp only [Act.put, List.setIfInBounds_toArray, List.set_cons_succ, List.set_cons_zero]
            refine plan_do rfl ?_
            go_wp2_with fail
            refine (HSI.out _ H8.out.2).mono ?_; rintro e w9 ⟨rfl, a9⟩
            have H9 := Lib.hid (And.intro (a9.row H8.out.1 id) (H8.out.2.trans a9 (fun _ h => h.elim)))
            clear a9
            dsimp only
            go_step
            refine wpList_nil ?_
            change _ ∧ _
            refine ⟨H9.out.1, ?_⟩
            refine plan_look (v := .bool false) rfl rfl (fun w0 hS => (by clear hS; go_simp; try rfl)) ?_
            simp only [Act.put, List.setIfInBounds_toArray, List.set_cons_succ, List.set_cons_zero]
            iterate 2
              refine plan_look (v := .bool false) rfl rfl (fun w0 hS => (by clear hS; go_simp; try rfl)) ?_
              simp only [Act.put, List.setIfInBounds_toArray, List.set_cons_succ, List.set_cons_zero]
            iterate 2
              refine plan_look rfl rfl (fun w0 hS => (by clear hS; go_simp; try rfl)) ?_
              simp only [Act.put, List.setIfInBounds_toArray, List.set_cons_succ, List.set_cons_zero]
            refine plan_do rfl ?_
            go_wp2_with fail
            refine (HKI.out _ H9.out.2).mono ?_; rintro e w10 ⟨rfl, a10⟩
            have H10 := Lib.hid (And.intro (a10.row H9.out.1 id) (H9.out.2.trans a10 (fun _ h => h.elim)))
            clear a10
            dsimp only
            go_step
            refine wpList_nil ?_
            change _ ∧ _
            refine ⟨H10.out.1, ?_⟩
            iterate 2
              refine plan_look (v := .bool true) rfl rfl (fun w0 hS => (by clear hS; go_simp; try rfl)) ?_
              simp only [Act.put, List.setIfInBounds_toArray, List.set_cons_succ, List.set_cons_zero]
            iterate 2
              refine plan_look rfl rfl (fun w0 hS => (by clear hS; go_simp; try rfl)) ?_
              simp only [Act.put, List.setIfInBounds_toArray, List.set_cons_succ, List.set_cons_zero]
            iterate 3
              refine plan_look (v := .bool false) rfl rfl (fun w0 hS => (by clear hS; go_simp; try rfl)) ?_
              simp only [Act.put, List.setIfInBounds_toArray, List.set_cons_succ, List.set_cons_zero]
            refine plan_end ?_; simp only [List.drop_succ_cons, List.drop_zero]
            go_wp2
            refine NoPanic.normal ?_
            go_wp2
            go_roundg g
            case measure => omega
            case rel => exact ⟨j + 1, by omega, by go_num, (HAX.out.1.trans HW4.out.2 (fun _ h => h.elim)).trans H10.out.2 (fun _ h => h.elim)⟩
          · have hkq : (((kd : Nat) : Int) == 2) = false := by simp; omega
            have hkd2 : decide (((kd : Nat) : Int) = 2) = false := decide_eq_false (by omega)
            have hke2 : decide (kd = 2) = false := decide_eq_false hk2
            go_wp2
            refine wp_region_plan (fun wz => wz.heap[B]? = some (.cells O 66 (0, 0))) 28 [(0, false), (1, false), (2, false), (3, false), (4, false), (5, false), (6, true), (7, false), (8, false), (9, false), (10, false), (11, false), (12, false), (13, false), (14, true), (15, false), (16, false), (17, false), (18, false), (19, false), (20, true), (21, false), (22, false), (23, false), (24, false), (25, false), (26, false), (27, false)] (by kernel_rfl) (by kernel_rfl) ?_ ?_
            · exact row_drew H7.out.1
            iterate 1
              refine plan_look rfl rfl (fun w0 hS => (by clear hS; go_simp; try rfl)) ?_
              simp only [Act.put, List.setIfInBounds_toArray, List.set_cons_succ, List.set_cons_zero]
            iterate 2
              refine plan_look (v := .bool false) rfl rfl (fun w0 hS => (by clear hS; go_simp; try rfl)) ?_
              simp only [Act.put, List.setIfInBounds_toArray, List.set_cons_succ, List.set_cons_zero]
            refine Law9.plan_gload_part (cur := O) (t := 66) (fr := (0, 0)) rfl rfl 66 _ rfl B 0 32 rfl (fun w0 hS => hS) Try.underlying66 rfl sizeH (by rw [HOO.out.1]; omega) O (by have := HOO.out.1; simp [← this]) ?_
            simp only [Act.put, List.setIfInBounds_toArray, List.set_cons_succ, List.set_cons_zero]
            iterate 2
              refine plan_look rfl rfl (fun w0 hS => (by clear hS; go_simp; try rfl)) ?_
              simp only [Act.put, List.setIfInBounds_toArray, List.set_cons_succ, List.set_cons_zero]
            refine plan_do rfl ?_
            go_wp2_with fail
            refine (HDG.out _ H7.out.2.drew).mono ?_; rintro e w8 ⟨rfl, a8⟩
            have H8 := Lib.hid (And.intro (a8.row (row_drew H7.out.1) id) (H7.out.2.drew.trans a8 (fun _ h => h.elim)))
            clear a8
            dsimp only
            go_step
            refine wpList_nil ?_
            change _ ∧ _
            refine ⟨H8.out.1, ?_⟩
            refine plan_look (v := .bool false) rfl rfl (fun w0 hS => (by clear hS; have := hneq w0; go_simp; try rfl)) ?_
            simp only [Act.put, List.setIfInBounds_toArray, List.set_cons_succ, List.set_cons_zero]
            iterate 2
              refine plan_look (v := .bool false) rfl rfl (fun w0 hS => (by clear hS; go_simp; try rfl)) ?_
              simp only [Act.put, List.setIfInBounds_toArray, List.set_cons_succ, List.set_cons_zero]
            iterate 4
              refine plan_look rfl rfl (fun w0 hS => (by clear hS; go_simp; try rfl)) ?_
              simp only [Act.put, List.setIfInBounds_toArray, List.set_cons_succ, List.set_cons_zero]
            refine plan_do rfl ?_
            go_wp2_with fail
            refine (HSI.out _ H8.out.2).mono ?_; rintro e w9 ⟨rfl, a9⟩
            have H9 := Lib.hid (And.intro (a9.row H8.out.1 id) (H8.out.2.trans a9 (fun _ h => h.elim)))
            clear a9
            dsimp only
            go_step
            refine wpList_nil ?_
            change _ ∧ _
            refine ⟨H9.out.1, ?_⟩
            refine plan_look (v := .bool false) rfl rfl (fun w0 hS => (by clear hS; go_simp; try rfl)) ?_
            simp only [Act.put, List.setIfInBounds_toArray, List.set_cons_succ, List.set_cons_zero]
            iterate 2
              refine plan_look (v := .bool false) rfl rfl (fun w0 hS => (by clear hS; go_simp; try rfl)) ?_
              simp only [Act.put, List.setIfInBounds_toArray, List.set_cons_succ, List.set_cons_zero]
            iterate 2
              refine plan_look rfl rfl (fun w0 hS => (by clear hS; go_simp; try rfl)) ?_
              simp only [Act.put, List.setIfInBounds_toArray, List.set_cons_succ, List.set_cons_zero]
            refine plan_do rfl ?_
            go_wp2_with fail
            refine (HKI.out _ H9.out.2).mono ?_; rintro e w10 ⟨rfl, a10⟩
            have H10 := Lib.hid (And.intro (a10.row H9.out.1 id) (H9.out.2.trans a10 (fun _ h => h.elim)))
            clear a10
            dsimp only
            go_step
            refine wpList_nil ?_
            change _ ∧ _
            refine ⟨H10.out.1, ?_⟩
            iterate 2
              refine plan_look (v := .bool false) rfl rfl (fun w0 hS => (by clear hS; go_simp; try rfl)) ?_
              simp only [Act.put, List.setIfInBounds_toArray, List.set_cons_succ, List.set_cons_zero]
            iterate 3
              refine plan_skip rfl rfl ?_
              simp only [Act.put, List.setIfInBounds_toArray, List.set_cons_succ, List.set_cons_zero]
            iterate 2
              refine plan_look (v := .bool false) rfl rfl (fun w0 hS => (by clear hS; go_simp; try rfl)) ?_
              simp only [Act.put, List.setIfInBounds_toArray, List.set_cons_succ, List.set_cons_zero]
            refine plan_end ?_; simp only [List.drop_succ_cons, List.drop_zero]
            go_wp2
            refine NoPanic.normal ?_
            go_wp2
            go_roundg g
            case measure => omega
            case rel => exact ⟨j + 1, by omega, by go_num, (HAX.out.1.trans HW4.out.2 (fun _ h => h.elim)).trans H10.out.2 (fun _ h => h.elim)⟩
end Go.Proofs.Ytfllneenonhonaa.Law7
