/- DropMap: the root is the map's: the walk. -/
import Derived.Test.YtpeebeebakjpdaaGreatWith10
import Derived.Test.YtpeebeebakjpdaaGreatReach10
import Derived.Test.YtpeebeebakjpdaaGreatAwake10
namespace Go.Proofs.YtpeebeebakjpdaaGreat.Law10
open Go Go.RowKit Go.Proofs.YtpeebeebakjpdaaGreat Go.Proofs.YtpeebeebakjpdaaGreat.ShaW Go.Proofs.YtpeebeebakjpdaaGreat.Path Go.Proofs.YtpeebeebakjpdaaGreat.Store Go.Proofs.YtpeebeebakjpdaaGreat.Law9
set_option maxHeartbeats 12800000
set_option linter.unusedVariables false

theorem RowP.but {w w' : World} {b : Nat} {v : Value} {l : List Pr} (h : RowP w b v l) (hb : But (fun j => v.ownBlock = some j) w w') : RowP w' b v l := Ch.owns hb h (fun k hk hn => hn hk)
/-- Behind a delete. -/
theorem St10.cut {w0 w w' : World} {s n k : Nat} {σ σ' : SlabSt Nd} {root r : Int} {L L' : Ents} {G : Nat → Prop} (h : St10 w0 w s σ root L n k) (ho : Ow w0 w' s σ' G) (C : Cut σ σ' root r) (D : Db σ' r L') : St10 w0 w' s σ' r L' n (k + 1) :=
  ⟨ho.less (fun _ h => h.elim), D, C.room.trans h.room, by have := C.total; have := h.total; omega, by have := C.live; have := h.live; omega, C.sole h.sole⟩
theorem nodes_small {σ : SlabSt Nd} {root : Int} {L : Ents} (D : Db σ root L) (hs : Sole σ root) {w : World} {s : Nat} {F : Nat → Prop} (h : At w s F σ) : (tree 256 L).nodes ≤ 65536 := by
  rw [← D.live hs]
  have := live_le σ
  have := h.len
  have := h.room
  omega
set_option maxRecDepth 100000 in
theorem map_law (ao ko : Option Addr) (l : List Pr) (kl : List (List UInt8)) (cap kcap : Nat) (w : World) (hl : PairsAt w ao l) (hks : KeysAt w ko kl) :
    Calls Tryz.prog 8 #[.slice ao l.length cap, .slice ko kl.length kcap] w fun e w' => e = .returned (.bool true) ∧ Adds w w' := by
  have hun := fun w1 (a : Adds w w1) => unlike_ok cap (hl.keep a (fun _ h => h.elim))
  have hfi := fun w1 (a : Adds w w1) (h1 : l.length ≤ 16) (h2 : ∀ x ∈ l, x.val.length ≤ 1024) => filled_ok cap (hl.keep a (fun _ h => h.elim)) h1 h2
  have HL := Lib.hid hl
  have HKS := Lib.hid hks
  obtain ⟨len, hle⟩ : ∃ len, len = l.length := ⟨_, rfl⟩
  obtain ⟨kn, hkn⟩ : ∃ kn, kn = kl.length := ⟨_, rfl⟩
  rw [← hle] at hun hfi ⊢
  rw [← hkn]
  have HLE := Lib.hid (And.intro hle hkn)
  have HUN := Lib.hid hun
  have HFI := Lib.hid hfi
  obtain ⟨Z, hZ⟩ : ∃ Z, Z = brow (List.replicate 32 0) := ⟨_, rfl⟩
  have hzh := zeroH
  rw [← hZ] at hzh
  have hZs : Z.size = 32 := by rw [hZ]; rfl
  have HZ := Lib.hid (And.intro hzh hZs)
  clear hl hks hun hfi hle hkn hzh hZs hZ
  go_enter Tryz.func8, Tryz.ntmps8
  go_wp2_with fail
  refine (awake_ok _).mono ?_; rintro e w1 ⟨rfl, a1⟩
  have A1 := Lib.hid a1
  clear a1
  go_wp2_with fail
  refine (HUN.out _ A1.out).mono ?_; rintro e w2 ⟨b, rfl, hb, a2⟩
  have A2 := Lib.hid (A1.out.trans a2 (fun _ h => h.elim))
  have HBU := Lib.hid hb
  clear a2 hb HUN
  by_cases hgo : b = true ∧ kn ≤ 14
  · obtain ⟨rfl, hk14⟩ := hgo
    obtain ⟨hl14, hfine⟩ := HBU.out.1 rfl
    have hd1 : decide ((14 : Int) < (kn : Int)) = false := decide_eq_false (by omega)
    have hd1' : decide (14 < kn) = false := decide_eq_false (by omega)
    have HF := Lib.hid (And.intro hl14 (And.intro hfine hk14))
    have hfi := HFI.out _ A2.out (by have := HLE.out.1; omega) hfine.2.1
    have HFI2 := Lib.hid hfi
    clear hl14 hfine hfi HFI HBU
    go_wp2_with fail
    refine HFI2.out.mono ?_; rintro e w3 ⟨s, σ, root, rfl, h3⟩
    have hst3 : St10 w2 w3 s σ root (l.map Pr.ent) 10320 (14 + 0) :=
      ⟨h3.own, h3.db.perm (entsOf_perm HF.out.2.1.2.2), h3.room, by have := h3.total; have := HF.out.1; omega, by have := h3.live; have := HF.out.1; omega, h3.sole⟩
    have hp3 : PairsAt w3 ao l := (HL.out.keep A2.out (fun _ h => h.elim)).keep h3.own.world (fun _ h => h.elim)
    have H3 := Lib.hid (And.intro hst3 hp3)
    clear h3 hst3 hp3 HFI2 hd1 hd1'
    go_wp2_with fail
    go_loopg [7, 9, 10] kn (fun g s7 s9 s10 wr => ∃ (k : Nat) (root : Int) (σ : SlabSt Nd) (lk : List Pr) (lo : Option Addr) (m lc : Nat), s7 = .int .i64 root ∧ s9 = .slice lo m lc ∧ m = lk.length ∧ s10 = .int .i64 k ∧ k + g = kn ∧
      St10 w2 wr s σ root (lk.map Pr.ent) 10320 (14 + k) ∧ PairsAt wr lo lk ∧ (∀ x ∈ lk, x ∈ l) ∧ FineP lk ∧ lk.length ≤ 14)
    case atStart => exact ⟨0, root, σ, l, ao, len, cap, rfl, rfl, HLE.out.1, rfl, by omega, H3.out.1, H3.out.2, fun _ h => h, HF.out.2.1, by have := HF.out.1; have := HLE.out.1; omega⟩
    case round =>
      obtain ⟨k, root', σ', lk, lo, m, lc, rfl, rfl, hm, rfl, hk, hst, hpa, hin, hfp, hl14⟩ := hrel
      have HS := Lib.hid hst
      have HP := Lib.hid (And.intro hpa (And.intro hin (And.intro hfp (And.intro hl14 hm))))
      have HKG := Lib.hid hk
      clear H3
      by_cases hkl : k = kn
      · have hx1 : decide ((k : Int) < (kn : Int)) = false := decide_eq_false (by omega)
        have hx1' : decide (k < kn) = false := decide_eq_false (by omega)
        have HW := Lib.hid (A2.out.trans hst.own.world (fun _ h => h.elim))
        clear hk hst hpa hin hfp hl14 hkl hm
        go_wp2
        go_ret
        exact ⟨rfl, HW.out⟩
      · have hx1 : decide ((k : Int) < (kn : Int)) = true := decide_eq_true (by omega)
        have hx1' : decide (k < kn) = true := decide_eq_true (by omega)
        have hkl' : k < kl.length := by have := HLE.out.2; omega
        have hklen : (k : Int) < (kn : Int) := by omega
        have hklen' : k < kn := by omega
        obtain ⟨x, hx⟩ : ∃ x, kl[k]? = some x := ⟨_, List.getElem?_eq_getElem hkl'⟩
        obtain ⟨hx32, g0, off, rfl, cur, ty, fr, c1, c2, c3⟩ := HKS.out k x hx
        rw [brow_size, hx32] at c2 c3
        have hw0 := A2.out.trans hst.own.world (fun _ h => h.elim)
        have hrow := hw0.row c1 id
        have hwi := without_ok lc hx32 hpa (by omega)
        rw [← hm] at hwi
        obtain ⟨out, hout⟩ : ∃ out, out = withoutP lk x := ⟨_, rfl⟩
        rw [← hout] at hwi
        obtain ⟨K, hK⟩ : ∃ K, K = brow x := ⟨_, rfl⟩
        rw [← hK] at hwi c3
        have hgood : ∀ y ∈ out, y.Good w := fun y hy => HL.out.1 y (hin y (withoutP_mem (by rw [← hout]; exact hy)))
        have hfo : FineP out := by rw [hout]; exact FineP.without hfp x
        have hoe : out.map Pr.ent = without (lk.map Pr.ent) x := by rw [hout]; exact withoutP_ents lk x
        have hol : out.length ≤ 14 := by rw [hout]; exact Nat.le_trans (withoutP_len lk x) hl14
        have hoi : ∀ y ∈ out, y ∈ l := fun y hy => hin y (withoutP_mem (by rw [← hout]; exact hy))
        have hlt : decide (out.length < m) = decide (x ∈ keysOf (lk.map Pr.ent)) := by
          rw [hout, hm]
          exact decide_eq_decide.2 ((withoutP_lt lk x).trans (by unfold keysOf; rw [List.map_map]; exact Iff.rfl))
        rw [hlt] at hwi
        have HWI := Lib.hid hwi
        have HC := Lib.hid (And.intro hrow (And.intro c2 c3))
        have HO := Lib.hid (And.intro hgood (And.intro hfo (And.intro hoe (And.intro hol hoi))))
        have HX := Lib.hid (And.intro hx32 hK)
        have HW0 := Lib.hid hw0
        have hk14 := HF.out.2.2
        have HK14 := Lib.hid (show k < 14 by omega)
        clear hk hst hpa hin hfp hl14 hkl hm hx c1 c2 c3 hw0 hrow hwi hout hK hgood hfo hoe hol hoi hlt hx32 HKS hk14
        go_wp2_with (first
          | fail
          | ((with_reducible show wpList _ _ _ (⟨_, .load 34 _, _, _, _, _⟩ :: _) _ _); refine wpList_load_part rfl 34 _ rfl g0 (off + k * 32) rfl HC.out.1 Tryz.underlying34 rfl sizeP (by have := HC.out.2.1; omega) K HC.out.2.2 ?_))
        refine HWI.out.mono ?_; rintro e w4 ⟨v, rfl, hr4, a4⟩
        obtain ⟨vo, vc, rfl⟩ := hr4.form
        have ho4 : Ow w2 w4 s σ' (fun j => (Value.slice vo out.length vc).ownBlock = some j) := HS.out.own.more a4 (fun k hk => .inr (hr4.lt k hk))
        have hc4 := a4.row HC.out.1 id
        obtain ⟨F4, hF4⟩ := ho4.at
        have hco := DCost_db hF4 HS.out.db (key := x) HX.out.1
        rw [← HX.out.2] at hco
        have hrb4 : RowP w4 (w2.heap.size) (.slice vo out.length vc) out := (show RowP _ _ _ _ from hr4).base (fun k hk => Nat.le_trans HS.out.own.world.size (hr4.lt k hk).1)
        have H4 := Lib.hid (And.intro ho4 (And.intro hc4 hrb4))
        obtain ⟨tb, htb⟩ : ∃ tb, tb = decide (x ∈ keysOf (lk.map Pr.ent)) := ⟨_, rfl⟩
        obtain ⟨n, hn⟩ : ∃ n : Nat, (n : Int) = (if x ∈ keysOf (lk.map Pr.ent) then (looked x 0 (tree 256 (lk.map Pr.ent)) : Nat) else 0 : Int) ∧ n ≤ 256 ∧ (tb = false → n = 0) := by
          by_cases hin : x ∈ keysOf (lk.map Pr.ent)
          · exact ⟨looked x 0 (tree 256 (lk.map Pr.ent)), by rw [if_pos hin], by have := looked_le x 256 (lk.map Pr.ent) (Nat.le_refl _); rwa [Nat.sub_self] at this, fun h => by rw [htb, decide_eq_true hin] at h; cases h⟩
          · exact ⟨0, by rw [if_neg hin]; rfl, by omega, fun _ => rfl⟩
        rw [← hn.1] at hco
        rw [← htb]
        have HCO := Lib.hid hco
        have HTB := Lib.hid (And.intro htb hn.2)
        clear hr4 a4 ho4 hc4 hF4 hco hrb4 htb hn HWI
        go_wp2_with (first
          | fail
          | ((with_reducible show wpList _ _ _ (⟨_, .load 34 _, _, _, _, _⟩ :: _) _ _); refine wpList_load_part rfl 34 _ rfl g0 (off + k * 32) rfl H4.out.2.1 Tryz.underlying34 rfl sizeP (by have := HC.out.2.1; omega) K HC.out.2.2 ?_))
        refine HCO.out.mono ?_; rintro e w5 ⟨rfl, a5⟩
        have ho5 := H4.out.1.adds a5
        obtain ⟨F5, hF5⟩ := ho5.at
        have hoc := Occupied_ok hF5
        obtain ⟨us, hus⟩ : ∃ us, us = σ'.used := ⟨_, rfl⟩
        rw [← hus] at hoc
        have hdr := Drop_db ho5 HS.out.db (key := x) HX.out.1 (by have := HS.out.live; have := HK14.out; rw [HS.out.room]; omega) (by have := HS.out.total; have := HK14.out; omega)
        rw [← HX.out.2] at hdr
        have HDR := Lib.hid hdr
        have HOC := Lib.hid hoc
        have HUS := Lib.hid hus
        have H5 := Lib.hid (And.intro (a5.row H4.out.2.1 id) (H4.out.2.2.adds a5))
        clear a5 ho5 hF5 hoc hus hdr HCO
        go_wp2_with fail
        refine HOC.out.mono ?_; rintro e w6 ⟨rfl, rfl⟩
        go_wp2_with (first
          | fail
          | ((with_reducible show wpList _ _ _ (⟨_, .load 34 _, _, _, _, _⟩ :: _) _ _); refine wpList_load_part rfl 34 _ rfl g0 (off + k * 32) rfl H5.out.1 Tryz.underlying34 rfl sizeP (by have := HC.out.2.1; omega) K HC.out.2.2 ?_))
        refine HDR.out.mono ?_; rintro e w7 ⟨r, σ7, gone, rfl, o7, b7, C7, D7, hg7, hs7⟩
        rw [← HO.out.2.2.1] at D7
        obtain rfl : gone = tb := by
          rw [HTB.out.1, Bool.eq_iff_iff, hg7]
          simp
        have hst7 := HS.out.cut o7 C7 D7
        have hr7 : RowP w7 w2.heap.size (.slice vo out.length vc) out := RowP.but H5.out.2 b7
        have hgd7 : ∀ y ∈ out, y.Good w7 := fun y hy => (HO.out.1 y hy).keep (A2.out.trans o7.world (fun _ h => h.elim)) (fun _ h => h.elim)
        obtain ⟨vo', vc', hv', hpa7⟩ := RowP.pairs hr7 hgd7
        injection hv' with hv1 hv2 hv3
        subst hv1 hv3
        have hrt := Root_ok vc hpa7
        have hsm : (nd σ7 r).size = (out.length : Int) := by
          rw [D7.size, D7.count]
          unfold wrap64
          have := HO.out.2.2.2.1
          rw [List.length_map]
          omega
        have hdg7 := D7.digest
        have hlive7 : σ7.used = (tree 256 (out.map Pr.ent)).nodes := by rw [D7.good.used, D7.live hst7.sole]
        have H7 := Lib.hid (And.intro hst7 (And.intro hpa7 (And.intro hsm (And.intro hdg7 hlive7))))
        have HS7 := Lib.hid hs7
        have HRT := Lib.hid hrt
        clear o7 b7 C7 D7 hg7 hs7 hst7 hr7 hgd7 hpa7 hrt hsm hdg7 hlive7 HDR HOC hv2
        obtain ⟨mo, hmo⟩ : ∃ mo, mo = out.length := ⟨_, rfl⟩
        rw [← hmo] at HRT H7 ⊢
        have HMO := Lib.hid hmo
        clear hmo
        go_wp2_with fail
        refine HRT.out.mono ?_; rintro e w8 ⟨a8, hb, cc, rfl, hbl, hc0, hd⟩
        obtain rfl : cc = 0 := hc0.2 HO.out.2.1
        have hdig : hb = digestOf σ7 r := by rw [H7.out.2.2.2.1, hd HO.out.2.1]
        obtain ⟨O, hO⟩ : ∃ O, O = brow hb := ⟨_, rfl⟩
        have hos : O.size = 32 := by rw [hO, brow_size]; exact hbl
        have ho1 := brow_one hb
        have heq := neq_keys 58 Tryz.underlying58 hb hb hbl hbl
        rw [← hO] at ho1 heq
        simp only [decide_true, Bool.not_true] at heq
        have HOO := Lib.hid (And.intro hos ho1)
        have HDG := Lib.hid (And.intro hO hdig)
        have HEQ := Lib.hid heq
        have A8 := Lib.hid a8
        clear a8 hbl hc0 hd hdig hos ho1 heq HRT
        rw [← hO]
        clear hO
        go_upto_region 16 with (first
          | fail
          | ((with_reducible show wpList _ _ _ (⟨_, .alloc 58, _, _, _, _⟩ :: _) _ _); refine wpList_alloc_is rfl 58 rfl (.agg Z) HZ.out.1 ?_; dsimp only [Value.cells]; try simp only [World.size_alloc])
          | ((with_reducible show wpList _ _ _ (⟨_, .store 58 _ _, _, _, _, _⟩ :: _) _ _); refine wpList_store_part rfl 58 _ _ rfl w8.heap.size 0 O rfl rfl (heap_alloc_new _ _) (by rw [sizeH, HOO.out.1]) (by rw [HOO.out.1, HZ.out.2]; omega) HOO.out.2 O (by rw [splice_all _ _ (by rw [Array.length_toList, Array.length_toList, HOO.out.1, HZ.out.2])]) ?_))
        obtain ⟨w9, hw9⟩ : ∃ w9, w9 = (w8.alloc (.cells Z 58)).setRow w8.heap.size O := ⟨_, rfl⟩
        rw [← hw9]
        obtain ⟨B, hB⟩ : ∃ B, B = w8.heap.size := ⟨_, rfl⟩
        rw [← hB] at hw9 ⊢
        have r9 : w9.heap[B]? = some (.cells O 58 (0, 0)) := by rw [hw9, hB]; exact row_setRow_same (heap_alloc_new _ _) _
        have a89 : Adds w8 w9 := by rw [hw9]; exact ((Ch.refl _ _).alloc _).setRow (.inr (by omega)) _
        have a79 := A8.out.trans a89 (fun _ h => h.elim)
        have H9 := Lib.hid (And.intro (H7.out.1.adds a79) (And.intro (H7.out.2.1.keep a79 (fun _ h => h.elim)) r9))
        obtain ⟨F9, hF9⟩ := H9.out.1.own.at
        obtain ⟨nds, hnds⟩ : ∃ nds, nds = (tree 256 (out.map Pr.ent)).nodes := ⟨_, rfl⟩
        have hdg := fun w' (a : Adds w9 w') => Digest_ok (hF9.adds a) r
        have hsz := fun w' (a : Adds w9 w') => Size_ok (hF9.adds a) r
        have hocc := fun w' (a : Adds w9 w') => Occupied_ok (hF9.adds a)
        have hrea := fun w' (a : Adds w9 w') => reached_ok (hF9.adds a) H9.out.1.db.good H9.out.1.db.rep (nodes_small H9.out.1.db H9.out.1.sole hF9)
        rw [← HDG.out.2, ← HDG.out.1] at hdg
        rw [H7.out.2.2.1] at hsz
        have hun9 := H7.out.2.2.2.2
        rw [← hnds] at hrea hun9
        obtain ⟨u7, hu7⟩ : ∃ u7, u7 = σ7.used := ⟨_, rfl⟩
        rw [← hu7] at hocc hun9
        have HDD := Lib.hid hdg
        have HSZ := Lib.hid hsz
        have HOCC := Lib.hid hocc
        have HREA := Lib.hid hrea
        have HUN9 := Lib.hid hun9
        have HU7 := Lib.hid hu7
        clear hw9 hB r9 a89 a79 hF9 hnds hdg hsz hocc hrea hun9 hu7
        go_cut [120] (fun s120 wx => s120 = .bool false ∧ wx = w9)
        case first =>
          cases gone with
          | true =>
            have hn1 := HTB.out.2.1
            have f1 : decide ((256 : Int) < (n : Int)) = false := decide_eq_false (by omega)
            have f1' : decide (256 < n) = false := decide_eq_false (by omega)
            clear hn1
            go_wp2_with fail
            go_meet
            case rel => exact ⟨rfl, rfl⟩
          | false =>
            obtain ⟨er, es⟩ := HS7.out rfl
            have hn0 := HTB.out.2.2 rfl
            have huu : u7 = us := by rw [HU7.out, HUS.out, es]
            subst hn0 huu er
            clear es
            go_wp2_with fail
            refine (HOCC.out _ (Ch.refl _ _)).mono ?_; rintro e wx ⟨rfl, rfl⟩
            go_wp2_with fail
            go_meet
            case rel => exact ⟨rfl, rfl⟩
        case rest =>
          obtain ⟨rfl, rfl⟩ := hcut
          have heq := HEQ.out
          obtain rfl : u7 = nds := HUN9.out
          go_wp2
          refine wp_region_plan (fun w0 => w0.heap[B]? = some (.cells O 58 (0, 0))) 21 [(0, false), (1, false), (3, false), (2, true), (4, false), (5, false), (6, false), (7, false), (9, false), (10, false), (8, true), (11, false), (12, false), (13, false), (14, false), (16, false), (17, false), (15, true), (18, true), (19, false), (20, false)] (by kernel_rfl) (by kernel_rfl) ?_ ?_
          · exact row_drew H9.out.2.2
          iterate 2
            iterate 1 refine plan_look rfl rfl (fun w0 hS => (by go_simp; try rfl)) ?_
            simp only [Act.put, List.setIfInBounds_toArray, List.set_cons_succ, List.set_cons_zero]
          refine Law9.plan_gload_part (cur := O) (t := 58) (fr := (0, 0)) rfl rfl 58 _ rfl B 0 32 rfl (fun w0 hS => hS) Tryz.underlying58 rfl sizeH (by rw [HOO.out.1]; omega) O (by have := HOO.out.1; simp [← this]) ?_
          simp only [Act.put, List.setIfInBounds_toArray, List.set_cons_succ, List.set_cons_zero]
          refine plan_do rfl ?_
          go_wp2_with fail
          refine (HDD.out _ (Ch.refl _ _).drew).mono ?_; rintro e wa ⟨rfl, aa⟩
          have Ma := Lib.hid (And.intro ((Ch.refl (fun _ => False) wc).drew.trans aa (fun _ h => h.elim)) (aa.row (row_drew H9.out.2.2) id))
          clear aa
          dsimp only
          go_step
          refine wpList_nil ?_
          change _ ∧ _
          refine ⟨Ma.out.2, ?_⟩
          iterate 2
            refine plan_look (v := .bool false) rfl rfl (fun w0 hS => (by clear hS; go_simp; try rfl)) ?_
            simp only [Act.put, List.setIfInBounds_toArray, List.set_cons_succ, List.set_cons_zero]
          iterate 4
            iterate 1 refine plan_look rfl rfl (fun w0 hS => (by go_simp; try rfl)) ?_
            simp only [Act.put, List.setIfInBounds_toArray, List.set_cons_succ, List.set_cons_zero]
          refine plan_do rfl ?_
          go_wp2_with fail
          refine (HSZ.out _ Ma.out.1).mono ?_; rintro e wb ⟨rfl, ab⟩
          have Mb := Lib.hid (And.intro (Ma.out.1.trans ab (fun _ h => h.elim)) (ab.row Ma.out.2 id))
          clear ab
          dsimp only
          go_step
          refine wpList_nil ?_
          change _ ∧ _
          refine ⟨Mb.out.2, ?_⟩
          iterate 3
            refine plan_look (v := .bool false) rfl rfl (fun w0 hS => (by clear hS; go_simp; try rfl)) ?_
            simp only [Act.put, List.setIfInBounds_toArray, List.set_cons_succ, List.set_cons_zero]
          iterate 3
            iterate 1 refine plan_look rfl rfl (fun w0 hS => (by go_simp; try rfl)) ?_
            simp only [Act.put, List.setIfInBounds_toArray, List.set_cons_succ, List.set_cons_zero]
          refine plan_do rfl ?_
          go_wp2_with fail
          refine (HOCC.out _ Mb.out.1).mono ?_; rintro e wx ⟨rfl, rfl⟩
          dsimp only
          go_step
          refine wpList_nil ?_
          change _ ∧ _
          refine ⟨Mb.out.2, ?_⟩
          refine plan_do rfl ?_
          go_wp2_with fail
          refine (HREA.out _ Mb.out.1).mono ?_; rintro e we ⟨rfl, ae⟩
          have Me := Lib.hid (And.intro (Mb.out.1.trans ae (fun _ h => h.elim)) (ae.row Mb.out.2 id))
          clear ae
          dsimp only
          go_step
          refine wpList_nil ?_
          change _ ∧ _
          refine ⟨Me.out.2, ?_⟩
          iterate 2
            refine plan_look (v := .bool false) rfl rfl (fun w0 hS => (by clear hS; go_simp; try rfl)) ?_
            simp only [Act.put, List.setIfInBounds_toArray, List.set_cons_succ, List.set_cons_zero]
          refine plan_end ?_; simp only [List.drop_succ_cons, List.drop_zero]
          go_wp2
          refine NoPanic.normal ?_
          go_wp2_with fail
          go_roundg (gk - 1)
          case measure => have := HKG.out; omega
          case rel => exact ⟨k + 1, r, σ7, out, vo, mo, vc, rfl, rfl, HMO.out, by simp, by have := HKG.out; omega, H9.out.1.adds Me.out.1, H9.out.2.1.keep Me.out.1 (fun _ h => h.elim), HO.out.2.2.2.2, HO.out.2.1, HO.out.2.2.2.1⟩
  · by_cases hb : b = true
    · subst hb
      have hd1 : decide ((14 : Int) < (kn : Int)) = true := decide_eq_true (by have : ¬ kn ≤ 14 := fun h => hgo ⟨rfl, h⟩; omega)
      have hd1' : decide (14 < kn) = true := decide_eq_true (by have : ¬ kn ≤ 14 := fun h => hgo ⟨rfl, h⟩; omega)
      clear hgo HFI
      go_wp2_with fail
      go_ret
      exact ⟨rfl, A2.out⟩
    · obtain rfl : b = false := by simpa using hb
      clear hb hgo HFI
      go_wp2_with fail
      go_ret
      exact ⟨rfl, A2.out⟩
end Go.Proofs.YtpeebeebakjpdaaGreat.Law10
