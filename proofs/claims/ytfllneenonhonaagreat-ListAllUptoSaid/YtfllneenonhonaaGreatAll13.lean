/- ListAll's parts: is it among the pairs; all, piece by piece. -/
import Derived.Test.YtfllneenonhonaaGreatRanksP
import Derived.Test.YtfllneenonhonaaGreatList3
import Derived.Test.YtfllneenonhonaaGreatPlanG
import Derived.Deep.LoopGhost
namespace Go.Proofs.YtfllneenonhonaaGreat.Law13
open Go Go.RowKit Go.Shelf Go.Sort Go.Proofs.YtfllneenonhonaaGreat Go.Proofs.YtfllneenonhonaaGreat.ShaW Go.Proofs.YtfllneenonhonaaGreat.Path Go.Proofs.YtfllneenonhonaaGreat.Store Go.Proofs.YtfllneenonhonaaGreat.Law9
set_option maxHeartbeats 6400000
set_option linter.unusedVariables false

set_option maxRecDepth 100000 in
theorem has_ok {w : World} {ao : Option Addr} {l : List Pr} (cap : Nat) (hl : PairsAt w ao l) (hn : (l.map (·.key)).Nodup) (hlen : l.length ≤ 65536) {key : List UInt8} (hk : key.length = 32) {vv : Value} {bs : List UInt8} (hb : Bytes w vv bs) (hm : (key, bs) ∈ l.map Pr.ent) :
    Calls Tryz.prog 29 #[.slice ao l.length cap, .agg (brow key), vv] w fun e w' => e = .returned (.bool true) ∧ Adds w w' := by
  obtain ⟨x0, hx0, he0⟩ := List.mem_map.1 hm
  obtain ⟨i0, hi0⟩ := List.getElem?_of_mem hx0
  obtain ⟨vo, vc, hvv, _, _⟩ := hb.form
  obtain ⟨K, hK⟩ : ∃ K, K = brow key := ⟨_, rfl⟩
  have hKs : K.size = 32 := by rw [hK, brow_size, hk]
  obtain ⟨n, hn'⟩ : ∃ n, n = l.length := ⟨_, rfl⟩
  obtain ⟨wb, hwb⟩ : ∃ wb, wb = w.alloc (.cells K 24) := ⟨_, rfl⟩
  have hab : Adds w wb := by rw [hwb]; exact (Ch.refl _ _).alloc _
  have hrb : wb.heap[w.heap.size]? = some (.cells K 24 (0, 0)) := by rw [hwb]; exact heap_alloc_new _ _
  obtain ⟨b0, hb0⟩ : ∃ b0, b0 = w.heap.size := ⟨_, rfl⟩
  rw [← hb0] at hrb
  have hi0n : i0 < n := by have := (List.getElem?_eq_some_iff.1 hi0).1; omega
  have hdiff : ∀ k x, k < i0 → l[k]? = some x → x.key ≠ key := fun k x hki hx e => by
    obtain ⟨e1, e2⟩ := List.getElem?_eq_some_iff.1 hx
    obtain ⟨e3, e4⟩ := List.getElem?_eq_some_iff.1 hi0
    have h1 := List.pairwise_iff_getElem.1 hn k i0 (by simpa using e1) (by simpa using e3) hki
    rw [List.getElem_map, List.getElem_map, e2, e4] at h1
    exact h1 (by rw [e]; have := congrArg Prod.fst he0; exact this.symm)
  have hent : x0.key = key ∧ x0.val = bs := by simpa [Pr.ent] using he0
  rw [← hn', ← hK, hvv]
  have HP := Lib.hid (And.intro hl (And.intro hb hvv))
  have HN := Lib.hid (And.intro hn' (And.intro hlen hi0n))
  have HI := Lib.hid (And.intro hi0 (And.intro hdiff hent))
  have HK := Lib.hid (And.intro hK (And.intro hKs hk))
  have HWB := Lib.hid (And.intro hwb hb0)
  have HAB := Lib.hid (And.intro hab hrb)
  clear hl hn hlen hb hm hx0 he0 hi0 hK hKs hn' hwb hab hrb hi0n hdiff hent hk
  go_enter Tryz.func29, Tryz.ntmps29
  go_wp2_with fail
  rw [← HWB.out.1]
  rw [← HWB.out.2]
  clear hb0 HWB
  go_loopg [7] i0 (fun g s7 wr => ∃ k : Nat, s7 = .int .i64 k ∧ k + g = i0 ∧ Adds wb wr)
  case atStart => exact ⟨0, rfl, by omega, Ch.refl _ _⟩
  case round =>
    obtain ⟨k, rfl, hk, hA⟩ := hrel
    have hkn' : k < n := by have := HN.out; omega
    have hkn : (k : Int) < (n : Int) := by omega
    have hx1 : decide ((k : Int) < (n : Int)) = true := decide_eq_true hkn
    have hk0 : (0 : Int) ≤ (k : Int) := by omega
    have hwk : wrap64 ((k : Int) + 1) = (k : Int) + 1 := by have := HN.out; unfold wrap64; omega
    obtain ⟨x, hx⟩ : ∃ x, l[k]? = some x := ⟨_, List.getElem?_eq_getElem (by have := HN.out.1; omega)⟩
    have hAw := HAB.out.1.trans hA (fun _ h => h.elim)
    have hp1 := HP.out.1.keep hAw (fun _ h => h.elim)
    have gx := hp1.1 x (List.mem_of_getElem? hx)
    obtain ⟨ga, oa, rfl, cA, tA, fA, a1, a2, a3⟩ := hp1.2 k x hx
    rw [Pr.size gx.key] at a2 a3
    obtain ⟨ax, av⟩ := pair_parts gx.key a3
    have c1 := row_cell (row_drew a1) av
    have hq := eql_keys 24 Tryz.underlying24 x.key key gx.key HK.out.2.2
    have hsb := SameBytes_ok (gx.val.keep ((Ch.refl (fun _ => False) _).drew) (fun _ _ h => h)) ((HP.out.2.1.keep hAw (fun _ _ h => h)).keep ((Ch.refl (fun _ => False) _).drew) (fun _ _ h => h))
    obtain ⟨xo, xc, hxv, _⟩ := gx.val.form
    rw [hxv, HP.out.2.2] at hsb
    rw [hxv] at c1
    obtain ⟨KX, hKX⟩ : ∃ K, K = brow x.key := ⟨_, rfl⟩
    rw [← hKX] at ax hq
    rw [← HK.out.1] at hq
    have r0 := hA.row HAB.out.2 id
    have HA := Lib.hid (And.intro a1 (And.intro a2 (And.intro ax r0)))
    have HKG := Lib.hid (And.intro hk hA)
    by_cases hki : k = i0
    · have hxx : x = x0 := by
        have h1 := HI.out.1
        rw [← hki, hx] at h1
        exact Option.some.inj h1
      rw [decide_eq_true (show x.key = key by rw [hxx]; exact HI.out.2.2.1)] at hq
      rw [decide_eq_true (show x.val = bs by rw [hxx]; exact HI.out.2.2.2)] at hsb
      have HSB := Lib.hid hsb
      clear hk hA hx hAw hp1 gx a1 a2 a3 ax av hxv hKX hsb r0 hki hxx
      go_wp2_with fail
      refine wp_region_plan (fun w0 => w0 = wr.drew) 7 [(0, false), (1, false), (2, false), (3, false), (4, false), (5, false), (6, false)] (by kernel_rfl) (by kernel_rfl) ?_ ?_
      · rfl
      iterate 4
        refine plan_look rfl rfl (fun w0 hS => (by subst hS; go_simp; try rfl)) ?_
        simp only [Act.put, List.setIfInBounds_toArray, List.set_cons_succ, List.set_cons_zero]
      refine plan_load_part (cur := cA) (t := tA) (fr := fA) rfl rfl 24 _ rfl ga (oa + k * 33) 32 rfl (fun w0 hS => by subst hS; exact row_drew HA.out.1) Tryz.underlying24 rfl sizeP (by have := HA.out.2.1; omega) KX HA.out.2.2.1 ?_
      simp only [Act.put, List.setIfInBounds_toArray, List.set_cons_succ, List.set_cons_zero]
      refine plan_load_part (cur := K) (t := 24) (fr := (0, 0)) rfl rfl 24 _ rfl b0 0 32 rfl (fun w0 hS => by subst hS; exact row_drew HA.out.2.2.2) Tryz.underlying24 rfl sizeP (by have := HK.out.2.1; omega) K (by have := HK.out.2.1; simp [← this]) ?_
      simp only [Act.put, List.setIfInBounds_toArray, List.set_cons_succ, List.set_cons_zero]
      refine plan_look (v := .bool true) rfl rfl (fun w0 hS => (by subst hS; go_simp; try rfl)) ?_
      simp only [Act.put, List.setIfInBounds_toArray, List.set_cons_succ, List.set_cons_zero]
      refine plan_end ?_; simp only [List.drop_succ_cons, List.drop_zero]
      go_wp2
      refine NoPanic.normal ?_
      go_wp2_with fail
      refine HSB.out.mono ?_; rintro e w3 ⟨rfl, rfl⟩
      go_wp2
      go_ret
      exact ⟨rfl, (HAB.out.1.trans HKG.out.2 (fun _ h => h.elim)).drew⟩
    · rw [decide_eq_false (HI.out.2.1 k x (by omega) hx)] at hq
      clear hk hA hx hAw hp1 gx a1 a2 a3 ax av hxv hKX hsb r0
      go_wp2_with fail
      refine wp_region_plan (fun w0 => w0 = wr.drew) 7 [(0, false), (1, false), (2, false), (3, false), (4, false), (5, false), (6, false)] (by kernel_rfl) (by kernel_rfl) ?_ ?_
      · rfl
      iterate 4
        refine plan_look rfl rfl (fun w0 hS => (by subst hS; go_simp; try rfl)) ?_
        simp only [Act.put, List.setIfInBounds_toArray, List.set_cons_succ, List.set_cons_zero]
      refine plan_load_part (cur := cA) (t := tA) (fr := fA) rfl rfl 24 _ rfl ga (oa + k * 33) 32 rfl (fun w0 hS => by subst hS; exact row_drew HA.out.1) Tryz.underlying24 rfl sizeP (by have := HA.out.2.1; omega) KX HA.out.2.2.1 ?_
      simp only [Act.put, List.setIfInBounds_toArray, List.set_cons_succ, List.set_cons_zero]
      refine plan_load_part (cur := K) (t := 24) (fr := (0, 0)) rfl rfl 24 _ rfl b0 0 32 rfl (fun w0 hS => by subst hS; exact row_drew HA.out.2.2.2) Tryz.underlying24 rfl sizeP (by have := HK.out.2.1; omega) K (by have := HK.out.2.1; simp [← this]) ?_
      simp only [Act.put, List.setIfInBounds_toArray, List.set_cons_succ, List.set_cons_zero]
      refine plan_look (v := .bool false) rfl rfl (fun w0 hS => (by subst hS; go_simp; try rfl)) ?_
      simp only [Act.put, List.setIfInBounds_toArray, List.set_cons_succ, List.set_cons_zero]
      refine plan_end ?_; simp only [List.drop_succ_cons, List.drop_zero]
      go_wp2
      refine NoPanic.normal ?_
      go_wp2
      go_roundg (gk - 1)
      case measure => have := HKG.out.1; omega
      case rel => exact ⟨k + 1, by first | (simp; done) | (simp [hwk]; done), by have := HKG.out.1; omega, HKG.out.2.drew⟩

/-! ### piece by piece -/
theorem from_step {t : Tr} (hs : t.ents.Pairwise Ltk) (hl : ∀ e ∈ t.ents, e.1.length = 32) {key : List UInt8} {A B : Ents} {e : List UInt8 × List UInt8} (hR : t.from key = A ++ e :: B) :
    ((nextK e.1).2 = true → t.from (nextK e.1).1 = B) ∧ ((nextK e.1).2 = false → B = []) := by
  have hsR : (A ++ e :: B).Pairwise Ltk := by rw [← hR]; exact hs.sublist List.filter_sublist
  have heR : e ∈ t.from key := by rw [hR]; simp
  have heE : e ∈ t.ents := (List.mem_filter.1 heR).1
  have hek : ¬ Lib.compareBytes e.1 key < 0 := by simpa [geK] using (List.mem_filter.1 heR).2
  obtain ⟨p1, p2, p3⟩ := List.pairwise_append.1 hsR
  obtain ⟨p4, p5⟩ := List.pairwise_cons.1 p2
  constructor
  · intro hm
    have h1 : t.from (nextK e.1).1 = (t.from key).filter (fun x => decide (Lib.compareBytes e.1 x.1 < 0)) := by
      unfold Tr.from
      rw [List.filter_filter]
      refine List.filter_congr fun x hx => ?_
      have hn := cmp_next e.1 x.1 (by rw [hl x hx, hl e heE]) hm
      unfold geK
      by_cases h : Lib.compareBytes e.1 x.1 < 0
      · have h2 : ¬ Lib.compareBytes x.1 (nextK e.1).1 < 0 := fun h' => (hn.1 h') h
        have h3 : ¬ Lib.compareBytes x.1 key < 0 := fun h' => hek (cmp_lt_trans _ _ _ h h')
        simp [h, h2, h3]
      · have h2 : Lib.compareBytes x.1 (nextK e.1).1 < 0 := hn.2 h
        simp [h, h2]
    rw [h1, hR, List.filter_append, List.filter_cons]
    have hA : A.filter (fun x => decide (Lib.compareBytes e.1 x.1 < 0)) = [] := List.filter_eq_nil_iff.2 fun a ha => by
      have h := p3 a ha e (List.mem_cons_self ..)
      simp only [decide_eq_true_eq]
      intro h'
      have := cmp_lt_trans _ _ _ h h'
      rw [cmp_self] at this
      omega
    have hB : B.filter (fun x => decide (Lib.compareBytes e.1 x.1 < 0)) = B := List.filter_eq_self.2 fun b hb => by
      simp only [decide_eq_true_eq]
      exact p4 b hb
    rw [hA, hB, if_neg (by simp [cmp_self])]
    rfl
  · intro hm
    cases B with
    | nil => rfl
    | cons b B =>
      have h := p4 b (List.mem_cons_self ..)
      have hb : b ∈ t.ents := (List.mem_filter.1 (show b ∈ t.from key by rw [hR]; simp)).1
      have h1 := (next_off e.1 hm).1
      have h2 := cmp_full b.1
      rw [hl b hb, ← hl e heE, ← h1] at h2
      exact absurd h h2
theorem from_all (t : Tr) (hl : ∀ e ∈ t.ents, e.1.length = 32) : t.from (List.replicate 32 0) = t.ents := by
  unfold Tr.from
  refine List.filter_eq_self.2 fun e he => ?_
  have := cmp_zeros e.1
  rw [hl e he] at this
  unfold geK
  rw [Bool.not_eq_true', decide_eq_false_iff_not]
  exact this
section
variable {w : World} {s : Nat} {F : Nat → Prop} {σ : SlabSt Nd} {root : Int} {t : Tr}
set_option maxRecDepth 100000 in
theorem pieces_ok (h : At w s F σ) (G : Store.Good σ) (hr : Rep (sk σ) root 0 t) (h0 : rootErr σ root = 0) (ao : Option Addr) (n cap : Nat) (hn : t.leaves = n) (hn16 : n ≤ 16) (m : Nat) (hm : 1 ≤ m ∧ m ≤ 256) :
    Calls Tryz.prog 33 #[.pointer (some ⟨s, 0, none⟩), .int .i64 root, .slice ao n cap, .int .i64 m] w fun e w' => e = .returned (.bool true) ∧ Adds w w' := by
  obtain ⟨q1, _, q3⟩ := hr.ents G.fit
  have hl32 : ∀ e ∈ t.ents, e.1.length = 32 := fun e he => (q1 e he).1
  have hstep := fun (key : List UInt8) (A B : Ents) (e : List UInt8 × List UInt8) => from_step (t := t) q3 hl32 (key := key) (A := A) (B := B) (e := e)
  have hall : (t.from (List.replicate 32 0)).length = n := by rw [from_all t hl32, Tr.ents_length, hn]
  have hsome := fun w1 (a : Adds w w1) (key : List UInt8) (hk : key.length = 32) => Some_ok (h.adds a) G hr h0 key hk (m : Int) (by omega)
  obtain ⟨K0, hK0⟩ : ∃ K, K = brow (List.replicate 32 0) := ⟨_, rfl⟩
  have hb0 : Tryz.prog.built 24 [] = some (brow (List.replicate 32 0)) := key_built
  have hzh := zeroP
  rw [← hK0] at hb0 hzh
  have hKs : K0.size = 32 ∧ ∀ v ∈ K0.toList, v.oneCell' = true := by rw [hK0]; exact ⟨rfl, brow_one _⟩
  have HST := Lib.hid hstep
  have HALL := Lib.hid hall
  have HSO := Lib.hid hsome
  have HB := Lib.hid (And.intro hb0 (And.intro hzh (And.intro hKs hK0)))
  have HN := Lib.hid (And.intro hn16 hm)
  have HL := Lib.hid (fun (key : List UInt8) e (he : e ∈ t.from key) => hl32 e (List.mem_filter.1 he).1)
  clear h G hr h0 hn hn16 hm q1 q3 hl32 hstep hall hsome hb0 hzh hKs hK0
  go_enter Tryz.func33, Tryz.ntmps33
  go_upto_region 2 with (first
    | fail
    | ((with_reducible show wpList _ _ _ (⟨_, .build 24 #[], _, _, _, _⟩ :: _) _ _); refine wpList_build_none rfl 24 rfl K0 HB.out.1 ?_)
    | ((with_reducible show wpList _ _ _ (⟨_, .alloc 24, _, _, _, _⟩ :: _) _ _); refine wpList_alloc_is rfl 24 rfl (.agg K0) HB.out.2.1 ?_; dsimp only [Value.cells]; try simp only [World.size_alloc])
    | ((with_reducible show wpList _ _ _ (⟨_, .store 24 _ _, _, _, _, _⟩ :: _) _ _); refine wpList_store_part rfl 24 _ _ rfl w.heap.size 0 K0 rfl rfl (heap_alloc_new _ _) (by rw [sizeP, HB.out.2.2.1.1]) (by omega) HB.out.2.2.1.2 K0 (by rw [splice_all _ _ rfl]) ?_))
  obtain ⟨b0, hbb⟩ : ∃ b0, b0 = w.heap.size := ⟨_, rfl⟩
  obtain ⟨w2, hw2⟩ : ∃ w2, w2 = (w.alloc (.cells K0 24)).setRow w.heap.size K0 := ⟨_, rfl⟩
  have a2 : Adds w w2 := by rw [hw2]; exact ((Ch.refl _ _).alloc _).setRow (.inr (Nat.le_refl _)) _
  have r2 : w2.heap[b0]? = some (.cells K0 24 (0, 0)) := by rw [hw2, hbb]; exact row_setRow_same (heap_alloc_new _ _) _
  rw [← hw2, ← hbb]
  have H2 := Lib.hid (And.intro a2 r2)
  have HBB := Lib.hid hbb
  clear a2 r2 hw2 hbb
  go_wp2_with fail
  go_loopg [10, 11] n (fun g s10 s11 wr => ∃ (i c : Nat) (key : List UInt8), s10 = .int .i64 c ∧ s11 = .int .i64 i ∧ i + g = n ∧ i ≤ c ∧ c + (t.from key).length = n ∧ key.length = 32 ∧ Adds w wr ∧ wr.heap[b0]? = some (.cells (brow key) 24 (0, 0)))
  case atStart => exact ⟨0, 0, List.replicate 32 0, rfl, rfl, by omega, Nat.le_refl _, by have := HALL.out; omega, rfl, H2.out.1, by rw [← HB.out.2.2.2]; exact H2.out.2⟩
  case round =>
    obtain ⟨i, c, key, rfl, rfl, hi, hic, hc, hkl, hA, hrow⟩ := hrel
    have hin : decide ((i : Int) ≤ (n : Int)) = true := decide_eq_true (by omega)
    have hin' : decide (i ≤ n) = true := decide_eq_true (by omega)
    have hwi : wrap64 ((i : Int) + 1) = (i : Int) + 1 := by have := HN.out; unfold wrap64; omega
    have hso := HSO.out wr hA key hkl
    obtain ⟨KY, hKY⟩ : ∃ K, K = brow key := ⟨_, rfl⟩
    rw [← hKY] at hso hrow
    have HKY := Lib.hid (And.intro (by rw [hKY, brow_size, hkl] : KY.size = 32) hKY)
    have HR := Lib.hid (And.intro hA hrow)
    have HSS := Lib.hid hso
    have HI := Lib.hid (And.intro hi (And.intro hic hc))
    clear hi hic hc hkl hA hrow hso hKY H2
    go_wp2_with (first
      | fail
      | ((with_reducible show wpList _ _ _ (⟨_, .load 24 _, _, _, _, _⟩ :: _) _ _); refine wpList_load_part rfl 24 _ rfl b0 0 rfl HR.out.2 Tryz.underlying24 rfl sizeP (by rw [HKY.out.1]; omega) KY (by have := HKY.out.1; simp [← this]) ?_))
    refine HSS.out.mono ?_; rintro e w3 ⟨v, out, rfl, ht, he, a3⟩
    obtain ⟨ao3, cap3, rfl, hp⟩ := RowP.pairs ht.row ht.good
    have hol : out.length = min m (t.from key).length := by
      have := congrArg List.length he
      rw [List.length_map, List.length_take, Int.toNat_natCast] at this
      exact this
    have h3 := Lib.hid (And.intro (HR.out.1.trans a3 (fun _ h => h.elim)) (And.intro (a3.row HR.out.2 id) (And.intro hp he)))
    obtain ⟨k, hk⟩ : ∃ k, k = out.length := ⟨_, rfl⟩
    rw [← hk]
    have hkm : decide ((m : Int) < (k : Int)) = false := decide_eq_false (by omega)
    have hkm' : decide (m < k) = false := decide_eq_false (by omega)
    have hwc : wrap64 ((c : Int) + (k : Int)) = ((c + k : Nat) : Int) := by have := HI.out; have := HN.out; unfold wrap64; omega
    have HK := Lib.hid (And.intro hk hol)
    clear ht a3 hp he hol hk HSS
    by_cases hlt : k < m
    · have hlt1 : decide ((k : Int) < (m : Int)) = true := decide_eq_true (by omega)
      have hlt2 : decide (k < m) = true := decide_eq_true hlt
      have hend : ((c + k : Nat) : Int) = (n : Int) := by have := HI.out; have := HK.out; omega
      clear hlt
      go_wp2
      go_ret
      exact ⟨by simp, h3.out.1⟩
    · have hlt1 : decide ((k : Int) < (m : Int)) = false := decide_eq_false (by omega)
      have hlt2 : decide (k < m) = false := decide_eq_false hlt
      obtain ⟨k1, hkk⟩ : ∃ k1, k = k1 + 1 := ⟨k - 1, by have := HN.out; omega⟩
      have HKK := Lib.hid hkk
      have hk1 : wrap64 ((k : Int) - 1) = (k1 : Int) := by have := HN.out; have := HK.out; unfold wrap64; omega
      have hk2 : (k1 : Int) < (k : Int) := by omega
      have hk2' : k1 < k := by omega
      have hk3 : (0 : Int) ≤ (k1 : Int) := by omega
      obtain ⟨x, hx⟩ : ∃ x, out[k1]? = some x := ⟨_, List.getElem?_eq_getElem (by have := HK.out; omega)⟩
      have gx := h3.out.2.2.1.1 x (List.mem_of_getElem? hx)
      obtain ⟨ga, oa, rfl, cA, tA, fA, a1, a2, a3⟩ := h3.out.2.2.1.2 k1 x hx
      rw [Pr.size gx.key] at a2 a3
      obtain ⟨ax, _⟩ := pair_parts gx.key a3
      obtain ⟨KX, hKX⟩ : ∃ K, K = brow x.key := ⟨_, rfl⟩
      rw [← hKX] at ax
      have hR : t.from key = (t.from key).take k1 ++ Pr.ent x :: (t.from key).drop (k1 + 1) := by
        have h1 : (t.from key)[k1]? = some (Pr.ent x) := by
          have h2 : (out.map Pr.ent)[k1]? = some (Pr.ent x) := by rw [List.getElem?_map, hx]; rfl
          rw [h3.out.2.2.2, Int.toNat_natCast, List.getElem?_take_of_lt (by have := HK.out; omega)] at h2
          exact h2
        obtain ⟨e1, e2⟩ := List.getElem?_eq_some_iff.1 h1
        conv => lhs; rw [← List.take_append_drop k1 (t.from key), List.drop_eq_getElem_cons e1, e2]
      obtain ⟨hs1, hs2⟩ := HST.out key _ _ _ hR
      have hdl : (c + k) + ((t.from key).drop (k1 + 1)).length = n := by
        rw [List.length_drop]
        have := HI.out; have := HK.out; omega
      have hnx := Next_ok x.key gx.key w3
      rw [← hKX] at hnx
      obtain ⟨KN, hKN⟩ : ∃ K, K = brow (nextK x.key).1 := ⟨_, rfl⟩
      obtain ⟨mb, hmb⟩ : ∃ mb, mb = (nextK x.key).2 := ⟨_, rfl⟩
      rw [← hKN, ← hmb] at hnx
      have hs1' : (nextK x.key).2 = true → t.from (nextK x.key).1 = (t.from key).drop (k1 + 1) := hs1
      have hs2' : (nextK x.key).2 = false → (t.from key).drop (k1 + 1) = [] := hs2
      rw [← hmb] at hs1' hs2'
      have HNX := Lib.hid hnx
      have HKN := Lib.hid (And.intro (by rw [hKN, brow_size, nextK_length, gx.key] : KN.size = 32) (And.intro (by rw [hKN]; exact brow_one _ : ∀ v ∈ KN.toList, v.oneCell' = true) hKN))
      have HAR := Lib.hid (And.intro a1 (And.intro a2 ax))
      have HS2 := Lib.hid (And.intro hs1' (And.intro hs2' hdl))
      have HXL := Lib.hid (show (nextK x.key).1.length = 32 by rw [nextK_length]; exact gx.key)
      clear hkk hlt gx hx a1 a2 a3 ax hKX hR hs1 hs2 hdl hnx hKN hmb hs1' hs2'
      go_wp2_with (first
        | fail
        | ((with_reducible show wpList _ _ _ (⟨_, .load 24 _, _, _, _, _⟩ :: _) _ _); refine wpList_load_part rfl 24 _ rfl ga (oa + k1 * 33) rfl HAR.out.1 Tryz.underlying24 rfl sizeP (by have := HAR.out.2.1; omega) KX HAR.out.2.2 ?_))
      refine HNX.out.mono ?_; rintro e w4 ⟨rfl, a4⟩
      have H4 := Lib.hid (And.intro (h3.out.1.trans a4 (fun _ h => h.elim)) (a4.row h3.out.2.1 id))
      clear a4 HNX
      go_upto_region 12 with (first
        | fail
        | ((with_reducible show wpList _ _ _ (⟨_, .alloc 24, _, _, _, _⟩ :: _) _ _); refine wpList_alloc_is rfl 24 rfl (.agg K0) HB.out.2.1 ?_; dsimp only [Value.cells]; try simp only [World.size_alloc])
        | ((with_reducible show wpList _ _ _ (⟨_, .store 24 _ _, _, _, _, _⟩ :: _) _ _); refine wpList_store_part rfl 24 _ _ rfl w4.heap.size 0 KN rfl rfl (heap_alloc_new _ _) (by rw [sizeP, HKN.out.1]) (by rw [HKN.out.1, HB.out.2.2.1.1]; omega) HKN.out.2.1 KN (by rw [splice_all _ _ (by rw [Array.length_toList, Array.length_toList, HKN.out.1, HB.out.2.2.1.1])]) ?_))
      obtain ⟨w5, hw5⟩ : ∃ w5, w5 = (w4.alloc (.cells K0 24)).setRow w4.heap.size KN := ⟨_, rfl⟩
      rw [← hw5]
      have a5 : Adds w4 w5 := by rw [hw5]; exact ((Ch.refl _ _).alloc _).setRow (.inr (Nat.le_refl _)) _
      have r5 : w5.heap[w4.heap.size]? = some (.cells KN 24 (0, 0)) := by rw [hw5]; exact row_setRow_same (heap_alloc_new _ _) _
      have H5 := Lib.hid (And.intro (H4.out.1.trans a5 (fun _ h => h.elim)) (And.intro (a5.row H4.out.2 id) r5))
      clear hw5 a5 r5
      cases mb with
      | false =>
        have hend : ((c + k : Nat) : Int) = (n : Int) := by
          have h1 := HS2.out.2.1 rfl
          have h2 := HS2.out.2.2
          rw [h1] at h2
          simp at h2
          omega
        have hend' : (c : Int) + (k : Int) = (n : Int) := by omega
        go_wp2
        go_ret
        exact ⟨by simp, H5.out.1⟩
      | true =>
        go_wp2_with (first
          | fail
          | ((with_reducible show wpList _ _ _ (⟨_, .load 24 _, _, _, _, _⟩ :: _) _ _); refine wpList_load_part rfl 24 _ rfl w4.heap.size 0 rfl H5.out.2.2 Tryz.underlying24 rfl sizeP (by rw [HKN.out.1]; omega) KN (by have := HKN.out.1; simp [← this]) ?_)
          | ((with_reducible show wpList _ _ _ (⟨_, .store 24 _ _, _, _, _, _⟩ :: _) _ _); refine wpList_store_part rfl 24 _ _ rfl b0 0 KN rfl rfl H5.out.2.1 (by rw [sizeP, HKN.out.1]) (by rw [HKN.out.1, HKY.out.1]; omega) HKN.out.2.1 KN (by rw [splice_all _ _ (by rw [Array.length_toList, Array.length_toList, HKN.out.1, HKY.out.1])]) ?_))
        go_roundg (gk - 1)
        case measure => have := HI.out; have := HS2.out.2.2; have := HKK.out; omega
        case rel =>
          refine ⟨i + 1, c + k, (nextK x.key).1, by simp, by first | (simp; done) | (simp [hwi]; done), by have := HI.out; have := HS2.out.2.2; have := HKK.out; omega, by have := HI.out; have := HKK.out; omega, ?_, HXL.out, ?_, ?_⟩
          · rw [HS2.out.1 (by first | rfl | trivial)]; exact HS2.out.2.2
          · exact H5.out.1.setRow (.inr (by rw [HBB.out]; exact Nat.le_refl _)) _
          · rw [← HKN.out.2.2]; exact row_setRow_same H5.out.2.1 _
end
end Go.Proofs.YtfllneenonhonaaGreat.Law13
