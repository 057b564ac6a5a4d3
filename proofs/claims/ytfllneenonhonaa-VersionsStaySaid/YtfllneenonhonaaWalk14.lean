/- VersionsStay: what has a name stays: the walk. -/
import Derived.Test.YtfllneenonhonaaStay14
import Derived.Deep.LoopGhost
import Derived.Deep.CutRange
import Derived.Deep.DeepCutAuto
import Derived.Deep.CutBlock
namespace Go.Proofs.Ytfllneenonhonaa.Law14
open Go Go.RowKit Go.Proofs.Ytfllneenonhonaa Go.Proofs.Ytfllneenonhonaa.ShaW Go.Proofs.Ytfllneenonhonaa.Path Go.Proofs.Ytfllneenonhonaa.Store Go.Proofs.Ytfllneenonhonaa.Law9
set_option maxHeartbeats 12800000
set_option linter.unusedVariables false

/-- Behind the put of a round. -/
structure StW (w wx : World) (s v bm : Nat) (n : Nat) (k : Nat) (σ : SlabSt Nd) (root : Int) (L : Ents) (M : Nmd) (tn : Nat) : Prop where
  st : Sty w wx s v bm bm σ ((root, L) :: rtsM M) M (hshM M) (258 * k) tn
  few : M.length ≤ 16
theorem cut_get {cur cs : Array Value} {o i : Nat} {v : Value} (h3 : cur.extract o (o + cs.size) = cs) (hi : cs[i]? = some v) : cur[o + i]? = some v := by
  rw [← h3, Array.getElem?_extract] at hi
  simp at hi
  exact hi.2
theorem cut_part {cur cs K : Array Value} {o n : Nat} (h3 : cur.extract o (o + cs.size) = cs) (hn : n ≤ cs.size) (hk : cs.extract 0 (0 + n) = K) : cur.extract o (o + n) = K := by
  rw [← hk, ← h3, Array.extract_extract]
  congr 1
  omega
theorem wr_parts {x : Wr} (h : x.key.length = 32) {cur : Array Value} {o : Nat} (c3 : cur.extract o (o + 34) = x.cells) : cur.extract o (o + 32) = brow x.key ∧ cur[o + 32]? = some x.vv ∧ cur[o + 33]? = some (.string (bstr x.nm)) := by
  have hs := Wr.size h
  have h' : cur.extract o (o + x.cells.size) = x.cells := by rw [hs]; exact c3
  exact ⟨cut_part h' (by rw [hs]; omega) (Wr.at_key h), cut_get h' (Wr.at_val h), cut_get h' (Wr.at_nm h)⟩
set_option maxRecDepth 100000 in
theorem stay_law {w : World} {ao : Option Addr} {l : List Wr} (cap : Nat) (hl : WritesAt w ao l) :
    Calls Try.prog 7 #[.slice ao l.length cap] w fun e w' => e = .returned (.bool true) ∧ Adds w w' := by
  obtain ⟨n, hn⟩ : ∃ n, n = l.length := ⟨_, rfl⟩
  obtain ⟨Z, hZ⟩ : ∃ Z, Z = brow (List.replicate 32 0) := ⟨_, rfl⟩
  have hzd := zeroH
  rw [← hZ] at hzd
  have hZs : Z.size = 32 := by rw [hZ]; rfl
  have HZ := Lib.hid (And.intro hzd hZs)
  have HN := Lib.hid hn
  have HL := Lib.hid hl
  rw [← hn]
  clear hn hl hZ hzd hZs
  go_enter Try.func7, Try.ntmps7
  go_wp2_with fail
  refine (awake_ok w).mono ?_; rintro e w1 ⟨rfl, a1⟩
  have A1 := Lib.hid a1
  clear a1
  by_cases h16 : 16 < n
  · have d16 : decide ((16 : Int) < (n : Int)) = true := decide_eq_true (by omega)
    clear h16
    go_wp2
    go_ret
    exact ⟨rfl, A1.out⟩
  · have d16 : decide ((16 : Int) < (n : Int)) = false := decide_eq_false (by omega)
    have HN16 := Lib.hid h16
    clear h16
    go_wp2_with fail
    refine (New_own 5160 w1 (by decide) (by decide)).mono ?_; rintro e w2 ⟨s, rfl, h2⟩
    have HV := Lib.hid (VNew_ok (h2.ow.less (G' := fun _ => False) (fun _ h => h.elim)) (by decide))
    have A2 := Lib.hid (A1.out.trans (h2.ow.world) (fun _ h => h.elim))
    clear h2
    go_wp2_with fail
    refine HV.out.mono ?_; rintro e w3 ⟨v, rfl, v3, a3, _⟩
    have hmm := @run_makeMap Try.prog
    obtain ⟨w4, hw4⟩ : ∃ w4, w4 = w3.alloc (.map #[] 0) := ⟨_, rfl⟩
    have H4 : RowKit.Hid (Sty w1 w4 s v w3.heap.size w3.heap.size ⟨5160, [], []⟩ [(0, [])] [] [] 0 0) := Lib.hid (by rw [hw4]; exact Sty.start v3 v3.world)
    have HW4 := Lib.hid hw4
    clear v3 a3 HV
    obtain ⟨bm, hbm⟩ : ∃ bm, bm = w3.heap.size := ⟨_, rfl⟩
    rw [← hbm] at H4
    go_wp2_with fail
    rw [← HW4.out, ← hbm]
    clear hmm HW4 hw4 hbm
    go_loopg [8, 10] n (fun g s8 s10 wr => ∃ (k : Nat) (root : Int) (σ : SlabSt Nd) (L : Ents) (M : Nmd), s8 = .int .i64 root ∧ s10 = .int .i64 k ∧ k + g = n ∧ StW w1 wr s v bm n k σ root L M (1000 * k))
    case atStart => exact ⟨0, 0, _, [], [], rfl, rfl, by omega, ⟨H4.out, by decide⟩⟩
    case round =>
      obtain ⟨k, root, σ, L, M, rfl, rfl, hk, hst⟩ := hrel
      have HS := Lib.hid hst
      have HKG := Lib.hid hk
      clear H4
      by_cases hkl : k = n
      · have hx1 : decide ((k : Int) < (n : Int)) = false := decide_eq_false (by omega)
        have hx1' : decide (k < n) = false := decide_eq_false (by omega)
        have hfew := HS.out.few
        have hnm := HS.out.st.vs.names_ok (by rw [nusM_len]; omega)
        have HNM := Lib.hid hnm
        obtain ⟨m, hm⟩ : ∃ m, m = M.length := ⟨_, rfl⟩
        have HM := Lib.hid (And.intro hm hfew)
        clear hk hst hkl hfew hnm hm
        go_wp2_with fail
        refine HNM.out.mono ?_; rintro e w5 ⟨q, rfl, hq, a5⟩
        obtain ⟨ao2, cap2, xb, rfl, hrow, hst5⟩ := HS.out.st.names a5 hq
        have hct := hst5.hm.count
        rw [hshM_len, ← HM.out.1] at hct
        rw [← HM.out.1]
        obtain ⟨NL, hNL⟩ : ∃ NL, NL = sortN (nusM M) := ⟨_, rfl⟩
        rw [← hNL] at hrow
        have HNL := Lib.hid hNL
        have hnll : NL.length = m := by rw [hNL, sortN_length, nusM_len, HM.out.1]
        have HLL := Lib.hid hnll
        have H5 := Lib.hid (And.intro hst5 hrow)
        clear hq a5 hrow hst5 hNL hnll
        go_wp2_with fail
        go_loopg [17] m (fun g s17 wr2 => ∃ (j : Nat), s17 = .int .i64 j ∧ j + g = m ∧ Sty w1 wr2 s v bm xb σ ((root, L) :: rtsM M) M (hshM M) (258 * k) (1000 * k) ∧ NmRow wr2 xb ao2 NL)
        case atStart => exact ⟨0, rfl, by omega, H5.out.1, H5.out.2⟩
        case round =>
          obtain ⟨j, rfl, hj, hst, hrow⟩ := hrel
          have HT := Lib.hid (And.intro hst hrow)
          have HJ := Lib.hid hj
          clear H5 hct
          by_cases hjm : j = m
          · have hy1 : decide ((j : Int) < (m : Int)) = false := decide_eq_false (by omega)
            have hy1' : decide (j < m) = false := decide_eq_false (by omega)
            clear hj hst hrow hjm
            go_upto_if 175 with fail
            go_cut [] (fun wx => ∃ σ', Sty w1 wx s v bm xb σ' (rtsM M) M (hshM M) (258 * k) (1000 * k) ∧ NmRow wx xb ao2 NL)
            case first =>
              by_cases h0 : root = 0
              · subst h0
                go_wp2
                go_meet
                case rel => exact ⟨σ, HT.out.1.less, HT.out.2⟩
              · have hp1 : (0 : Int) < root := HT.out.1.pos h0
                have hp2 : decide ((0 : Int) < root) = true := decide_eq_true hp1
                have HDR := Lib.hid (HT.out.1.drop h0)
                clear h0
                go_wp2_with fail
                refine HDR.out.mono ?_; rintro e w6 ⟨nn, σ6, rfl, h6, b6⟩
                have H6 := Lib.hid (And.intro h6 (HT.out.2.but b6))
                clear h6 b6
                go_wp2
                go_meet
                case rel => exact ⟨σ6, H6.out.1, H6.out.2⟩
            case rest =>
              obtain ⟨σ7, h7, r7⟩ := hcut
              have H7 : RowKit.Hid (Sty w1 wc s v bm xb σ7 (rtsM (leftM M (NL.take 0))) (leftM M (NL.take 0)) (hshM M) (258 * k) (1000 * k) ∧ NmRow wc xb ao2 NL) := Lib.hid (by rw [List.take_zero, leftM_nil]; exact ⟨h7, r7⟩)
              clear h7 r7 HT
              go_wp2_with fail
              go_loopg [20] m (fun g s20 wr3 => ∃ (i : Nat) (σ8 : SlabSt Nd), s20 = .int .i64 i ∧ i + g = m ∧ Sty w1 wr3 s v bm xb σ8 (rtsM (leftM M (NL.take i))) (leftM M (NL.take i)) (hshM M) (258 * k) (1000 * k) ∧ NmRow wr3 xb ao2 NL)
              case atStart => exact ⟨0, σ7, rfl, by omega, H7.out.1, H7.out.2⟩
              case round =>
                obtain ⟨i, σ8, rfl, hi, hst, hrow⟩ := hrel
                have HI := Lib.hid hi
                clear H7
                by_cases him : i = m
                · have hz1 : decide ((i : Int) < (m : Int)) = false := decide_eq_false (by omega)
                  have hz1' : decide (i < m) = false := decide_eq_false (by omega)
                  have hall : leftM M (NL.take i) = [] := leftM_all (fun x hx => by
                    rw [List.take_of_length_le (by have := HLL.out; omega), HNL.out]
                    exact sortN_mem.2 (by rw [nusM_names]; exact hx))
                  rw [hall] at hst
                  have HT := Lib.hid hst
                  clear hi hst hrow him hall
                  go_wp2_with fail
                  refine HT.out.occupied.mono ?_; rintro e w9 ⟨rfl, rfl⟩
                  go_wp2_with fail
                  refine HT.out.vs.len.mono ?_; rintro e w9 ⟨rfl, rfl⟩
                  go_wp2
                  go_ret
                  exact ⟨rfl, A1.out.trans HT.out.world (fun _ h => h.elim)⟩
                · have hz1 : decide ((i : Int) < (m : Int)) = true := decide_eq_true (by omega)
                  have hz1' : decide (i < m) = true := decide_eq_true (by omega)
                  have him' : i < m := by omega
                  have himi : (i : Int) < (m : Int) := by omega
                  have hwi : wrap64 ((i : Int) + 1) = (i : Int) + 1 := by have := HM.out; unfold wrap64; omega
                  obtain ⟨y, hy⟩ : ∃ y, NL[i]? = some y := ⟨_, List.getElem?_eq_getElem (by have := HLL.out; omega)⟩
                  obtain ⟨rfl, hcy⟩ := hrow i y hy
                  obtain ⟨p, hp, hpy⟩ := sortN_entry (M := M) (x := y) (by rw [← HNL.out]; exact List.mem_of_getElem? hy)
                  have hnd : NL.Nodup := by
                    have h1 := HS.out.st.nd
                    rw [HNL.out]
                    exact sortN_nodup h1
                  have hpl : p ∈ leftM M (NL.take i) := leftM_mem hp (fun hm => by
                    obtain ⟨q, hq⟩ := List.getElem?_of_mem hm
                    have hqi : q < i := by have := (List.getElem?_eq_some_iff.1 hq).1; rw [List.length_take] at this; omega
                    rw [List.getElem?_take_of_lt hqi, hpy] at hq
                    obtain ⟨e1, e2⟩ := List.getElem?_eq_some_iff.1 hq
                    obtain ⟨e3, e4⟩ := List.getElem?_eq_some_iff.1 hy
                    have := List.pairwise_iff_getElem.1 hnd q i e1 e3 hqi
                    rw [e2, e4] at this
                    exact this rfl)
                  have hnext : NL.take (i + 1) = NL.take i ++ [y] := by rw [List.take_add_one, hy]; rfl
                  have hcut := hst.cut hpl
                  rw [hpy, ← leftM_next, ← hnext] at hcut
                  obtain ⟨Y, hY⟩ : ∃ Y, Y = bstr y := ⟨_, rfl⟩
                  rw [← hY] at hcut hcy
                  have HC := Lib.hid hcut
                  have HR := Lib.hid hrow
                  clear hi hst hrow him hy hp hpy hnd hpl hnext hcut hY
                  go_wp2_with fail
                  refine HC.out.mono ?_; rintro e w9 ⟨nn, σ9, rfl, h9, b9⟩
                  have H9 := Lib.hid (And.intro h9 (HR.out.but b9))
                  clear h9 b9
                  go_wp2
                  go_roundg (gk - 1)
                  case measure => have := HI.out; omega
                  case rel => exact ⟨i + 1, σ9, by simp [hwi], by have := HI.out; omega, H9.out.1, H9.out.2⟩
          · have hy1 : decide ((j : Int) < (m : Int)) = true := decide_eq_true (by omega)
            have hy1' : decide (j < m) = true := decide_eq_true (by omega)
            have hjm' : j < m := by omega
            have hjmi : (j : Int) < (m : Int) := by omega
            have hwj : wrap64 ((j : Int) + 1) = (j : Int) + 1 := by have := HM.out; unfold wrap64; omega
            obtain ⟨y, hy⟩ : ∃ y, NL[j]? = some y := ⟨_, List.getElem?_eq_getElem (by have := HLL.out; omega)⟩
            obtain ⟨rfl, hcy⟩ := hrow j y hy
            obtain ⟨p, hp, hpy⟩ := sortN_entry (M := M) (x := y) (by rw [← HNL.out]; exact List.mem_of_getElem? hy)
            have hnd := hst.nd
            have hlen : y.length ≤ maxLen := hst.lens (by rw [← hpy]; exact List.mem_map_of_mem hp)
            have hrt := hst.rootIs hp
            obtain ⟨Y, hY⟩ : ∃ Y, Y = bstr y := ⟨_, rfl⟩
            rw [hpy, ← hY] at hrt
            rw [← hY] at hcy
            obtain ⟨D, hD⟩ : ∃ D, D = brow (tree 256 p.2.2).dig := ⟨_, rfl⟩
            have hget : hashV ((hshM M).get y) = .agg D := by
              have h1 := hshM_get hnd hp
              rw [hpy] at h1
              rw [h1, hD]
              rfl
            have hmr : (p.2.1, p.2.2) ∈ rtsM M := List.mem_map_of_mem (f := fun p : List UInt8 × Int × Ents => (p.2.1, p.2.2)) hp
            have hdl := hst.dlen (List.mem_cons_of_mem (root, L) hmr)
            have hneq := neq_keys 66 Try.underlying66 (tree 256 p.2.2).dig (tree 256 p.2.2).dig hdl hdl
            rw [← hD] at hneq
            simp only [decide_true, Bool.not_true] at hneq
            obtain ⟨hh, hhh⟩ : ∃ h, h = p.2.1 := ⟨_, rfl⟩
            rw [← hhh] at hrt hmr
            have HRT := Lib.hid hrt
            have HPR := Lib.hid (And.intro hmr (And.intro hy hY))
            have HPL := Lib.hid hlen
            have HDD := Lib.hid (And.intro hD hget)
            have HT2 := Lib.hid (And.intro hst hrow)
            have HND := Lib.hid hnd
            clear hj hst hrow hjm hp hpy hnd hlen hrt hD hget hmr hdl hhh hy hY HT
            go_wp2_with fail
            refine HRT.out.mono ?_; rintro e wr3 ⟨rfl, rfl⟩
            go_upto_region 31 with fail
            go_cut [173] (fun s173 wx => s173 = .bool false ∧ Sty w1 wx s v bm xb σ ((root, L) :: rtsM M) M (hshM M) (258 * k) (1000 * k) ∧ NmRow wx xb (some ⟨xb, 0, none⟩) NL)
            case first =>
              by_cases hj0 : j = 0
              · have hz : decide ((0 : Int) < (j : Int)) = false := decide_eq_false (by omega)
                have hz' : decide (0 < j) = false := decide_eq_false (by omega)
                clear hj0
                refine wp_region_plan (fun w0 => HashAt w0 bm (hshM M).length (hshM M) ∧ NmRow w0 xb (some ⟨xb, 0, none⟩) NL) 30 [(0, false), (1, false), (2, false), (3, false), (4, false), (6, false), (7, false), (8, false), (9, false), (10, false), (11, false), (5, true), (12, false), (13, false), (14, false), (15, false), (16, false), (17, false), (18, false), (19, false), (20, false), (21, false), (22, false), (23, false), (24, false), (25, false), (26, false), (27, false), (28, false), (29, false)] (by kernel_rfl) (by kernel_rfl) ?_ ?_
                · exact ⟨HT2.out.1.hm.keep ((Ch.refl (fun _ => False) _).drew) id, HT2.out.2.adds (Ch.refl _ _).drew⟩
                iterate 1
                  refine plan_look rfl rfl (fun w0 hS => (by clear hS; go_simp; try rfl)) ?_
                  simp only [Act.put, List.setIfInBounds_toArray, List.set_cons_succ, List.set_cons_zero]
                refine plan_look (v := .bool false) rfl rfl (fun w0 hS => (by clear hS; go_simp; try rfl)) ?_
                simp only [Act.put, List.setIfInBounds_toArray, List.set_cons_succ, List.set_cons_zero]
                iterate 3
                  refine plan_look rfl rfl (fun w0 hS => (by clear hS; go_simp; try rfl)) ?_
                  simp only [Act.put, List.setIfInBounds_toArray, List.set_cons_succ, List.set_cons_zero]
                iterate 4
                  refine plan_look rfl rfl (fun w0 hS => (by clear hS; go_simp; try rfl)) ?_
                  simp only [Act.put, List.setIfInBounds_toArray, List.set_cons_succ, List.set_cons_zero]
                refine plan_look (v := .string Y) rfl rfl (fun w0 hS => (by have e0 := (hS.2 _ _ HPR.out.2.1).2; rw [← HPR.out.2.2] at e0; clear hS; go_simp; try rfl)) ?_
                simp only [Act.put, List.setIfInBounds_toArray, List.set_cons_succ, List.set_cons_zero]
                refine plan_look (v := .agg D) rfl rfl (fun w0 hS => (by have hl := hS.1.look1 HPL.out; rw [← HPR.out.2.2, HDD.out.2] at hl; clear hS; go_simp; try rfl)) ?_
                simp only [Act.put, List.setIfInBounds_toArray, List.set_cons_succ, List.set_cons_zero]
                refine plan_do rfl ?_
                go_wp2_with fail
                have hdg := (HT2.out.1.adds (Ch.refl _ _).drew).digest (List.mem_cons_of_mem _ HPR.out.1)
                rw [← HDD.out.1] at hdg
                refine hdg.mono ?_; rintro e wb ⟨rfl, ab⟩
                have HB := Lib.hid (And.intro ((HT2.out.1.adds (Ch.refl _ _).drew).adds ab) ((HT2.out.2.adds (Ch.refl _ _).drew).adds ab))
                clear hdg ab
                dsimp only
                go_step
                refine wpList_nil ?_
                change _ ∧ _
                refine ⟨⟨HB.out.1.hm, HB.out.2⟩, ?_⟩
                refine plan_look (v := .bool false) rfl rfl (fun w0 hS => (by clear hS; go_simp; try rfl)) ?_
                simp only [Act.put, List.setIfInBounds_toArray, List.set_cons_succ, List.set_cons_zero]
                iterate 3
                  refine plan_look rfl rfl (fun w0 hS => (by clear hS; go_simp; try rfl)) ?_
                  simp only [Act.put, List.setIfInBounds_toArray, List.set_cons_succ, List.set_cons_zero]
                refine plan_look (v := .bool false) rfl rfl (fun w0 hS => (by clear hS; go_simp; try rfl)) ?_
                simp only [Act.put, List.setIfInBounds_toArray, List.set_cons_succ, List.set_cons_zero]
                iterate 1
                  refine plan_look rfl rfl (fun w0 hS => (by clear hS; go_simp; try rfl)) ?_
                  simp only [Act.put, List.setIfInBounds_toArray, List.set_cons_succ, List.set_cons_zero]
                iterate 10
                  refine plan_skip rfl rfl ?_
                  simp only [Act.put, List.setIfInBounds_toArray, List.set_cons_succ, List.set_cons_zero]
                iterate 1
                  refine plan_look rfl rfl (fun w0 hS => (by clear hS; go_simp; try rfl)) ?_
                  simp only [Act.put, List.setIfInBounds_toArray, List.set_cons_succ, List.set_cons_zero]
                refine plan_look (v := .bool false) rfl rfl (fun w0 hS => (by clear hS; go_simp; try rfl)) ?_
                simp only [Act.put, List.setIfInBounds_toArray, List.set_cons_succ, List.set_cons_zero]
                refine plan_end ?_; simp only [List.drop_succ_cons, List.drop_zero]
                go_wp2
                refine NoPanic.normal ?_
                go_wp2
                go_meet
                case rel => exact ⟨rfl, HB.out.1, HB.out.2⟩
              · obtain ⟨i, rfl⟩ : ∃ i, j = i + 1 := ⟨j - 1, by omega⟩
                have hz : decide ((0 : Int) < ((i + 1 : Nat) : Int)) = true := decide_eq_true (by omega)
                have hz' : decide (0 < i + 1) = true := decide_eq_true (by omega)
                have hws : wrap64 (((i + 1 : Nat) : Int) - 1) = (i : Int) := by have := HM.out; unfold wrap64; omega
                have him : (i : Int) < (m : Int) := by omega
                have him' : i < m := by omega
                have hwi1 : IntKind.i64.wrap (i : Int) = (i : Int) := by have := HM.out; rw [IntWalk.i64_left]; unfold wrap64; omega
                have hwi0 : wrap64 (i : Int) = (i : Int) := by have := HM.out; unfold wrap64; omega
                have hii : (0 : Int) ≤ (i : Int) + 1 := by omega
                have hij : (i : Int) + 1 < (m : Int) := by omega
                obtain ⟨x0, hx0⟩ : ∃ x0, NL[i]? = some x0 := ⟨_, List.getElem?_eq_getElem (by have := HLL.out; omega)⟩
                obtain ⟨X0, hX0⟩ : ∃ X, X = bstr x0 := ⟨_, rfl⟩
                have hle : (Op.bytesLess Y.toList X0.toList || Y.toList == X0.toList) = false := by
                  have h1 := sortN_rise HND.out (k := i) (x := x0) (y := y) (by rw [← HNL.out]; exact hx0) (by rw [← HNL.out]; exact HPR.out.2.1)
                  have e1 : Y.toList = y := by rw [HPR.out.2.2]; exact ByteArray.toList_mk y
                  have e2 : X0.toList = x0 := by rw [hX0]; exact ByteArray.toList_mk x0
                  rw [e1, e2, h1.1, h1.2]
                  rfl
                have hlq : ∀ w : World, (binOp .leq 9 (.string Y) (.string X0)).run Try.prog w = .ok (.bool false) w := fun w => by
                  rw [show binOp .leq 9 (.string Y) (.string X0) = pure (.bool (Op.bytesLess Y.toList X0.toList || Y.toList == X0.toList)) by simp [binOp, Op.stringOp], hle]
                  rfl
                have HX0 := Lib.hid (And.intro hx0 hX0)
                clear hj0 hle hx0 hX0
                refine wp_region_plan (fun w0 => HashAt w0 bm (hshM M).length (hshM M) ∧ NmRow w0 xb (some ⟨xb, 0, none⟩) NL) 30 [(0, false), (1, false), (2, false), (3, false), (4, false), (6, false), (7, false), (8, false), (9, false), (10, false), (11, false), (5, true), (12, false), (13, false), (14, false), (15, false), (16, false), (17, false), (18, false), (19, false), (20, false), (21, false), (22, false), (23, false), (24, false), (25, false), (26, false), (27, false), (28, false), (29, false)] (by kernel_rfl) (by kernel_rfl) ?_ ?_
                · exact ⟨HT2.out.1.hm.keep ((Ch.refl (fun _ => False) _).drew) id, HT2.out.2.adds (Ch.refl _ _).drew⟩
                iterate 1
                  refine plan_look rfl rfl (fun w0 hS => (by clear hS; go_simp; try rfl)) ?_
                  simp only [Act.put, List.setIfInBounds_toArray, List.set_cons_succ, List.set_cons_zero]
                refine plan_look (v := .bool false) rfl rfl (fun w0 hS => (by clear hS; go_simp; try rfl)) ?_
                simp only [Act.put, List.setIfInBounds_toArray, List.set_cons_succ, List.set_cons_zero]
                iterate 3
                  refine plan_look rfl rfl (fun w0 hS => (by clear hS; go_simp; try rfl)) ?_
                  simp only [Act.put, List.setIfInBounds_toArray, List.set_cons_succ, List.set_cons_zero]
                iterate 4
                  refine plan_look rfl rfl (fun w0 hS => (by clear hS; go_simp; try rfl)) ?_
                  simp only [Act.put, List.setIfInBounds_toArray, List.set_cons_succ, List.set_cons_zero]
                refine plan_look (v := .string Y) rfl rfl (fun w0 hS => (by have e0 := (hS.2 _ _ HPR.out.2.1).2; rw [← HPR.out.2.2] at e0; clear hS; go_simp; try rfl)) ?_
                simp only [Act.put, List.setIfInBounds_toArray, List.set_cons_succ, List.set_cons_zero]
                refine plan_look (v := .agg D) rfl rfl (fun w0 hS => (by have hl := hS.1.look1 HPL.out; rw [← HPR.out.2.2, HDD.out.2] at hl; clear hS; go_simp; try rfl)) ?_
                simp only [Act.put, List.setIfInBounds_toArray, List.set_cons_succ, List.set_cons_zero]
                refine plan_do rfl ?_
                go_wp2_with fail
                have hdg := (HT2.out.1.adds (Ch.refl _ _).drew).digest (List.mem_cons_of_mem _ HPR.out.1)
                rw [← HDD.out.1] at hdg
                refine hdg.mono ?_; rintro e wb ⟨rfl, ab⟩
                have HB := Lib.hid (And.intro ((HT2.out.1.adds (Ch.refl _ _).drew).adds ab) ((HT2.out.2.adds (Ch.refl _ _).drew).adds ab))
                clear hdg ab
                dsimp only
                go_step
                refine wpList_nil ?_
                change _ ∧ _
                refine ⟨⟨HB.out.1.hm, HB.out.2⟩, ?_⟩
                refine plan_look (v := .bool false) rfl rfl (fun w0 hS => (by clear hS; go_simp; try rfl)) ?_
                simp only [Act.put, List.setIfInBounds_toArray, List.set_cons_succ, List.set_cons_zero]
                iterate 3
                  refine plan_look rfl rfl (fun w0 hS => (by clear hS; go_simp; try rfl)) ?_
                  simp only [Act.put, List.setIfInBounds_toArray, List.set_cons_succ, List.set_cons_zero]
                refine plan_look (v := .bool true) rfl rfl (fun w0 hS => (by clear hS; go_simp; try rfl)) ?_
                simp only [Act.put, List.setIfInBounds_toArray, List.set_cons_succ, List.set_cons_zero]
                iterate 4
                  refine plan_look rfl rfl (fun w0 hS => (by clear hS; go_simp; try rfl)) ?_
                  simp only [Act.put, List.setIfInBounds_toArray, List.set_cons_succ, List.set_cons_zero]
                refine plan_look (v := .string Y) rfl rfl (fun w0 hS => (by have e0 := (hS.2 (i + 1) _ HPR.out.2.1).2; rw [← HPR.out.2.2] at e0; clear hS; go_simp; try rfl)) ?_
                simp only [Act.put, List.setIfInBounds_toArray, List.set_cons_succ, List.set_cons_zero]
                iterate 2
                  refine plan_look rfl rfl (fun w0 hS => (by clear hS; go_simp; try rfl)) ?_
                  simp only [Act.put, List.setIfInBounds_toArray, List.set_cons_succ, List.set_cons_zero]
                refine plan_look (v := .int .i64 (i : Int)) rfl rfl (fun w0 hS => (by clear hS; first | (go_simp; done) | (go_simp; rfl) | (go_simp; exact hwi1) | (go_simp; rw [hwi1]; done))) ?_
                simp only [Act.put, List.setIfInBounds_toArray, List.set_cons_succ, List.set_cons_zero]
                iterate 1
                  refine plan_look rfl rfl (fun w0 hS => (by clear hS; go_simp; try rfl)) ?_
                  simp only [Act.put, List.setIfInBounds_toArray, List.set_cons_succ, List.set_cons_zero]
                refine plan_look (v := .string X0) rfl rfl (fun w0 hS => (by have e0 := (hS.2 i _ HX0.out.1).2; rw [← HX0.out.2] at e0; clear hS; go_simp; try rfl)) ?_
                simp only [Act.put, List.setIfInBounds_toArray, List.set_cons_succ, List.set_cons_zero]
                refine plan_look (v := .bool false) rfl rfl (fun w0 hS => (by clear hS; go_simp; try rfl)) ?_
                simp only [Act.put, List.setIfInBounds_toArray, List.set_cons_succ, List.set_cons_zero]
                iterate 1
                  refine plan_look rfl rfl (fun w0 hS => (by clear hS; go_simp; try rfl)) ?_
                  simp only [Act.put, List.setIfInBounds_toArray, List.set_cons_succ, List.set_cons_zero]
                refine plan_look (v := .bool false) rfl rfl (fun w0 hS => (by clear hS; go_simp; try rfl)) ?_
                simp only [Act.put, List.setIfInBounds_toArray, List.set_cons_succ, List.set_cons_zero]
                refine plan_end ?_; simp only [List.drop_succ_cons, List.drop_zero]
                go_wp2
                refine NoPanic.normal ?_
                go_wp2
                go_meet
                case rel => exact ⟨rfl, HB.out.1, HB.out.2⟩
            case rest =>
              obtain ⟨rfl, h7, r7⟩ := hcut
              have H7 := Lib.hid (And.intro h7 r7)
              clear h7 r7
              go_wp2
              go_roundg (gk - 1)
              case measure => have := HJ.out; omega
              case rel => exact ⟨j + 1, by simp [hwj], by have := HJ.out; omega, H7.out.1, H7.out.2⟩
      · have hx1 : decide ((k : Int) < (n : Int)) = true := decide_eq_true (by omega)
        have hx1' : decide (k < n) = true := decide_eq_true (by omega)
        have hwk : wrap64 ((k : Int) + 1) = (k : Int) + 1 := by have := HN16.out; unfold wrap64; omega
        have hklen : (k : Int) < (n : Int) := by omega
        have hklen' : k < n := by omega
        obtain ⟨x, hx⟩ : ∃ x, l[k]? = some x := ⟨_, List.getElem?_eq_getElem (by have := HN.out; omega)⟩
        obtain ⟨g0, off, rfl, hp⟩ := HL.out.2 k x hx
        have hg := HL.out.1 x (List.mem_of_getElem? hx)
        have hsz := Wr.size hg.key
        obtain ⟨cur, ty, fr, c1, c2, c3⟩ := hp
        rw [hsz] at c2 c3
        obtain ⟨ck, cv, cn⟩ := wr_parts hg.key c3
        obtain ⟨K, hK⟩ : ∃ K, K = brow x.key := ⟨_, rfl⟩
        rw [← hK] at ck
        obtain ⟨S, hS⟩ : ∃ S, S = bstr x.nm := ⟨_, rfl⟩
        rw [← hS] at cn
        have HC := Lib.hid (And.intro c1 (And.intro c2 (And.intro ck (And.intro cv cn))))
        have HX := Lib.hid (And.intro hx (And.intro hg (And.intro hS hK)))
        obtain ⟨xo, xc, hxv, _, _⟩ := hg.val.form
        have HXV := Lib.hid hxv
        have hrow : ∀ wx : World, Adds w1 wx → wx.heap[g0]? = some (.cells cur ty fr) := fun wx a => (A1.out.trans a (fun _ h => h.elim)).row HC.out.1 id
        have HROW := Lib.hid hrow
        have hk16 : k < 16 := by have := HN16.out; omega
        have HK16 := Lib.hid hk16
        clear hst hk hkl hg hsz c1 c2 c3 ck cv cn hK hx hS hxv hrow hk16
        go_upto_region 13 with fail
        go_cut [11, 12] (fun s11 s12 wx => ∃ (r er root' : Int) (σ' : SlabSt Nd) (L' : Ents), s11 = .int .i64 r ∧ s12 = .int .i64 er ∧ ((er = 0 ∧ root' = r) ∨ (er = 4 ∧ root' = root)) ∧ StW w1 wx s v bm n (k + 1) σ' root' L' M (1000 * k + 600))
        case first =>
          by_cases hlong : 1024 < x.val.length
          · have HLO := Lib.hid hlong
            clear hlong
            refine wp_region_plan (fun w0 => w0.heap[g0]? = some (.cells cur ty fr)) 18 [(0, false), (1, false), (2, false), (3, false), (4, false), (5, false), (6, false), (7, false), (8, false), (9, false), (10, false), (11, false), (12, true), (13, false), (14, false), (15, false), (16, false), (17, false)] (by kernel_rfl) (by kernel_rfl) ?_ ?_
            · exact HROW.out _ (HS.out.st.world.drew)
            iterate 6
              refine plan_look rfl rfl (fun w0 hS => (by clear hS; go_simp; try rfl)) ?_
              simp only [Act.put, List.setIfInBounds_toArray, List.set_cons_succ, List.set_cons_zero]
            refine plan_load_part (cur := cur) (t := ty) (fr := fr) rfl rfl 23 _ rfl g0 (off + k * 34) 32 rfl (fun w0 hS => hS) Try.underlying23 rfl sizeP (by have := HC.out.2.1; omega) K HC.out.2.2.1 ?_
            simp only [Act.put, List.setIfInBounds_toArray, List.set_cons_succ, List.set_cons_zero]
            iterate 4
              refine plan_look rfl rfl (fun w0 hS => (by clear hS; go_simp; try rfl)) ?_
              simp only [Act.put, List.setIfInBounds_toArray, List.set_cons_succ, List.set_cons_zero]
            refine plan_look (v := .slice xo x.val.length xc) rfl rfl (fun w0 hS => (by have e0 := row_cell hS HC.out.2.2.2.1; rw [HXV.out] at e0; clear hS; go_simp; try rfl)) ?_
            simp only [Act.put, List.setIfInBounds_toArray, List.set_cons_succ, List.set_cons_zero]
            refine plan_do rfl ?_
            go_wp2_with fail
            have hP := (HS.out.st.adds (Ch.refl _ _).drew).long root K xo x.val.length xc HLO.out
            refine hP.mono ?_; rintro e w8 ⟨rfl, a8⟩
            have H8 : RowKit.Hid (StW w1 w8 s v bm n (k + 1) σ root L M (1000 * k + 600)) := Lib.hid ⟨((HS.out.st.adds (Ch.refl _ _).drew).adds a8).weak (by omega) (by omega), HS.out.few⟩
            clear hP a8
            dsimp only
            go_step
            refine wpList_nil ?_
            change _ ∧ _
            refine ⟨HROW.out _ H8.out.st.world, ?_⟩
            iterate 5
              refine plan_look rfl rfl (fun w0 hS => (by clear hS; go_simp; try rfl)) ?_
              simp only [Act.put, List.setIfInBounds_toArray, List.set_cons_succ, List.set_cons_zero]
            refine plan_end ?_; simp only [List.drop_succ_cons, List.drop_zero]
            go_wp2
            refine NoPanic.normal ?_
            go_wp2
            go_meet
            case rel => exact ⟨0, 4, root, σ, L, rfl, rfl, .inr ⟨rfl, rfl⟩, H8.out⟩
          · have HLO := Lib.hid hlong
            clear hlong
            refine wp_region_plan (fun w0 => w0.heap[g0]? = some (.cells cur ty fr)) 18 [(0, false), (1, false), (2, false), (3, false), (4, false), (5, false), (6, false), (7, false), (8, false), (9, false), (10, false), (11, false), (12, true), (13, false), (14, false), (15, false), (16, false), (17, false)] (by kernel_rfl) (by kernel_rfl) ?_ ?_
            · exact HROW.out _ (HS.out.st.world.drew)
            iterate 6
              refine plan_look rfl rfl (fun w0 hS => (by clear hS; go_simp; try rfl)) ?_
              simp only [Act.put, List.setIfInBounds_toArray, List.set_cons_succ, List.set_cons_zero]
            refine plan_load_part (cur := cur) (t := ty) (fr := fr) rfl rfl 23 _ rfl g0 (off + k * 34) 32 rfl (fun w0 hS => hS) Try.underlying23 rfl sizeP (by have := HC.out.2.1; omega) K HC.out.2.2.1 ?_
            simp only [Act.put, List.setIfInBounds_toArray, List.set_cons_succ, List.set_cons_zero]
            iterate 4
              refine plan_look rfl rfl (fun w0 hS => (by clear hS; go_simp; try rfl)) ?_
              simp only [Act.put, List.setIfInBounds_toArray, List.set_cons_succ, List.set_cons_zero]
            refine plan_look (v := .slice xo x.val.length xc) rfl rfl (fun w0 hS => (by have e0 := row_cell hS HC.out.2.2.2.1; rw [HXV.out] at e0; clear hS; go_simp; try rfl)) ?_
            simp only [Act.put, List.setIfInBounds_toArray, List.set_cons_succ, List.set_cons_zero]
            refine plan_do rfl ?_
            go_wp2_with fail
            have hg7 := HX.out.2.1.keep ((A1.out.trans HS.out.st.world (fun _ h => h.elim)).drew) (fun _ h => h.elim)
            have hb7 := hg7.val
            have hv7 := hg7.blk
            rw [HXV.out] at hb7 hv7
            have hP := (HS.out.st.adds (Ch.refl _ _).drew).put hg7.key hb7 hv7 (by have := HLO.out; omega) (by have := HK16.out; omega) (by have := HK16.out; omega)
            rw [← HX.out.2.2.2] at hP
            refine hP.mono ?_; rintro e w8 ⟨r, σ', rfl, h8⟩
            have H8 : RowKit.Hid (StW w1 w8 s v bm n (k + 1) σ' r (upd L x.key x.val) M (1000 * k + 600)) := Lib.hid ⟨h8.weak (by omega) (by omega), HS.out.few⟩
            clear hP hg7 hb7 hv7 h8
            dsimp only
            go_step
            refine wpList_nil ?_
            change _ ∧ _
            refine ⟨HROW.out _ H8.out.st.world, ?_⟩
            iterate 5
              refine plan_look rfl rfl (fun w0 hS => (by clear hS; go_simp; try rfl)) ?_
              simp only [Act.put, List.setIfInBounds_toArray, List.set_cons_succ, List.set_cons_zero]
            refine plan_end ?_; simp only [List.drop_succ_cons, List.drop_zero]
            go_wp2
            refine NoPanic.normal ?_
            go_wp2
            go_meet
            case rel => exact ⟨r, 0, r, σ', _, rfl, rfl, .inl ⟨rfl, rfl⟩, H8.out⟩
        case rest =>
          obtain ⟨r, er, root', σ', L', rfl, rfl, hc, hst'⟩ := hcut
          have HS2 := Lib.hid hst'
          have hxn := HX.out.2.1.nm
          have hroot : (root', L') ∈ (root', L') :: rtsM M := List.mem_cons_self ..
          have hwc := row_cell (HROW.out _ hst'.st.world) HC.out.2.2.2.2
          have hlk := hst'.st.hm.look (x := x.nm) hxn
          rw [hshM_names, ← HX.out.2.2.1] at hlk
          have hgl := hst'.st.hlen (fun p hp => List.mem_cons_of_mem _ hp) x.nm
          obtain ⟨D, hD⟩ : ∃ D, D = brow ((hshM M).get x.nm) := ⟨_, rfl⟩
          unfold hashV at hlk
          rw [← hD] at hlk
          have HD := Lib.hid (And.intro (by rw [hD, brow_size]; exact hgl : D.size = 32) (by rw [hD]; exact brow_one _ : ∀ v ∈ D.toList, v.oneCell' = true))
          obtain ⟨w9, hw9⟩ : ∃ w9, w9 = (wc.alloc (.cells Z 66)).setRow wc.heap.size D := ⟨_, rfl⟩
          have a9 : Adds wc w9 := by rw [hw9]; exact ((Ch.refl _ _).alloc _).setRow (.inr (Nat.le_refl _)) _
          have H9 : RowKit.Hid (StW w1 w9 s v bm n (k + 1) σ' root' L' M (1000 * k + 600)) := Lib.hid ⟨hst'.st.adds a9, hst'.few⟩
          have HW9 := Lib.hid hw9
          have hw9c := row_cell (HROW.out _ H9.out.st.world) HC.out.2.2.2.2
          have HNM := Lib.hid (Name_is x.nm hxn)
          rw [← HX.out.2.2.1] at HNM
          clear hst' hxn hgl hD hw9 a9
          by_cases hok : nameB x.nm = true ∧ x.nm ∉ namM M ∧ M.length < 16
          · obtain ⟨k1, k2, k3⟩ := hok
            rw [decide_eq_false k2] at hlk
            rw [k1] at HNM
            have hadd := H9.out.st.add HX.out.2.1.nm ⟨k1, k2, k3⟩ (by have := HK16.out; omega)
            rw [← HX.out.2.2.1] at hadd
            have HADD := Lib.hid hadd
            have HKK := Lib.hid (And.intro k2 k3)
            clear hadd k1 k2 k3
            rcases hc with ⟨rfl, rfl⟩ | ⟨rfl, rfl⟩
            all_goals
              go_upto_region 19 with (first
                | fail
                | ((with_reducible show wpList _ _ _ (⟨_, .alloc 66, _, _, _, _⟩ :: _) _ _); refine wpList_alloc_is rfl 66 rfl (.agg Z) HZ.out.1 ?_; dsimp only [Value.cells]; try simp only [World.size_alloc])
                | ((with_reducible show wpList _ _ _ (⟨_, .store 66 _ _, _, _, _, _⟩ :: _) _ _); refine wpList_store_part rfl 66 _ _ rfl wc.heap.size 0 D rfl rfl (heap_alloc_new _ _) (by rw [sizeH, HD.out.1]) (by rw [HD.out.1, HZ.out.2]; omega) HD.out.2 D (by rw [splice_all _ _ (by rw [Array.length_toList, Array.length_toList, HD.out.1, HZ.out.2])]) ?_))
              rw [← HW9.out]
              go_wp2_with fail
              refine HADD.out.mono ?_; rintro e wa ⟨σa, rfl, ha⟩
              have hwac := row_cell (HROW.out _ ha.world) HC.out.2.2.2.2
              have hct := ha.hm.count
              rw [hshM_len] at hct
              have hm16 : decide ((M.length : Int) < 16) = true := decide_eq_true (by have := HKK.out.2; omega)
              have HA := Lib.hid ha
              obtain ⟨m, hm⟩ : ∃ m, m = M.length := ⟨_, rfl⟩
              rw [← hm] at hct hm16
              clear ha hm hlk hwc hw9c
              go_wp2_with fail
              refine (HNM.out _).mono ?_; rintro e wa2 ⟨rfl, rfl⟩
              go_wp2_with fail
              refine wp_region_plan (fun w0 => w0.heap[g0]? = some (.cells cur ty fr)) 9 [(0, false), (1, false), (2, false), (3, false), (4, false), (5, false), (6, false), (7, false), (8, true)] (by kernel_rfl) (by kernel_rfl) ?_ ?_
              · exact HROW.out _ HA.out.world.drew
              iterate 5
                refine plan_look rfl rfl (fun w0 hS => (by clear hS; go_simp; try rfl)) ?_
                simp only [Act.put, List.setIfInBounds_toArray, List.set_cons_succ, List.set_cons_zero]
              refine plan_look (v := .string S) rfl rfl (fun w0 hS => (by have e0 := row_cell hS HC.out.2.2.2.2; clear hS; go_simp; try rfl)) ?_
              simp only [Act.put, List.setIfInBounds_toArray, List.set_cons_succ, List.set_cons_zero]
              iterate 2
                refine plan_look rfl rfl (fun w0 hS => (by clear hS; go_simp; try rfl)) ?_
                simp only [Act.put, List.setIfInBounds_toArray, List.set_cons_succ, List.set_cons_zero]
              refine plan_do rfl ?_
              go_wp2_with fail
              have hdg := (HA.out.adds (Ch.refl _ _).drew).digest (List.mem_cons_self ..)
              obtain ⟨Dg, hDg⟩ : ∃ D, D = brow (tree 256 L').dig := ⟨_, rfl⟩
              rw [← hDg] at hdg
              refine hdg.mono ?_; rintro e wb ⟨rfl, ab⟩
              have hb := (HA.out.adds (Ch.refl _ _).drew).adds ab
              obtain ⟨wn, hup, hn⟩ := hb.note (by rw [hshM_len]; have := HKK.out.2; omega) HX.out.2.1.nm (by rw [hshM_names]; exact HKK.out.1) (tree 256 L').dig
              unfold hashV at hup
              rw [← HX.out.2.2.1, ← hDg] at hup
              have HE := Lib.hid (show StW w1 wn s v bm n (k + 1) σa _ L' ((x.nm, _, L') :: M) (1000 * (k + 1)) from ⟨hn.weak (Nat.le_refl _) (by omega), by have := HKK.out.2; simp; omega⟩)
              have HB := Lib.hid hb
              clear hdg hDg ab hb hn
              dsimp only
              go_step
              refine wpList_nil ?_
              change _ ∧ _
              refine ⟨HROW.out _ HB.out.world, ?_⟩
              refine plan_end ?_; simp only [List.drop_succ_cons, List.drop_zero]
              go_wp2
              refine NoPanic.normal ?_
              go_wp2
              go_roundg (gk - 1)
              case measure => have := HKG.out; omega
              case rel => exact ⟨k + 1, _, σa, L', _, rfl, by simp [hwk], by have := HKG.out; omega, HE.out⟩
          · obtain ⟨c, hc0, hno⟩ := H9.out.st.addNo HX.out.2.1.nm hok
            rw [← HX.out.2.2.1] at hno
            have HNO := Lib.hid hno
            have hbad : nameB x.nm = false ∨ (nameB x.nm = true ∧ x.nm ∈ namM M) ∨ (nameB x.nm = true ∧ x.nm ∉ namM M ∧ 16 ≤ M.length) := by
              cases h1 : nameB x.nm with
              | false => exact .inl rfl
              | true =>
                by_cases h2 : x.nm ∈ namM M
                · exact .inr (.inl ⟨rfl, h2⟩)
                · exact .inr (.inr ⟨rfl, h2, by
                    by_cases h3 : M.length < 16
                    · exact absurd ⟨h1, h2, h3⟩ hok
                    · omega⟩)
            clear hno hok
            obtain ⟨th, hth⟩ : ∃ th, th = decide (x.nm ∈ namM M) := ⟨_, rfl⟩
            rw [← hth] at hlk
            rcases hbad with h1 | ⟨h1, h2⟩ | ⟨h1, h2, h3⟩
            · rw [h1] at HNM
              clear h1 hth
              rcases hc with ⟨rfl, rfl⟩ | ⟨rfl, rfl⟩
              all_goals
                go_upto_region 19 with (first
                  | fail
                  | ((with_reducible show wpList _ _ _ (⟨_, .alloc 66, _, _, _, _⟩ :: _) _ _); refine wpList_alloc_is rfl 66 rfl (.agg Z) HZ.out.1 ?_; dsimp only [Value.cells]; try simp only [World.size_alloc])
                  | ((with_reducible show wpList _ _ _ (⟨_, .store 66 _ _, _, _, _, _⟩ :: _) _ _); refine wpList_store_part rfl 66 _ _ rfl wc.heap.size 0 D rfl rfl (heap_alloc_new _ _) (by rw [sizeH, HD.out.1]) (by rw [HD.out.1, HZ.out.2]; omega) HD.out.2 D (by rw [splice_all _ _ (by rw [Array.length_toList, Array.length_toList, HD.out.1, HZ.out.2])]) ?_))
                rw [← HW9.out]
                go_wp2_with fail
                refine HNO.out.mono ?_; rintro e wa ⟨rfl, aa⟩
                have HA := Lib.hid (H9.out.st.adds aa)
                have hwac := row_cell (HROW.out _ HA.out.world) HC.out.2.2.2.2
                have hct := HA.out.hm.count
                rw [hshM_len] at hct
                obtain ⟨m, hm⟩ : ∃ m, m = M.length := ⟨_, rfl⟩
                have HM := Lib.hid hm
                rw [← hm] at hct
                clear aa hm hlk hwc hw9c
                go_wp2_with fail
                refine (HNM.out _).mono ?_; rintro e wa2 ⟨rfl, rfl⟩
                go_wp2
                go_roundg (gk - 1)
                case measure => have := HKG.out; omega
                case rel => exact ⟨k + 1, _, σ', L', M, rfl, by first | (simp; done) | (simp [hwk]; done), by have := HKG.out; omega, ⟨HA.out.weak (Nat.le_refl _) (by omega), HS.out.few⟩⟩
            · rw [h1] at HNM
              rw [decide_eq_true h2] at hth
              subst hth
              clear h1 h2
              rcases hc with ⟨rfl, rfl⟩ | ⟨rfl, rfl⟩
              all_goals
                go_upto_region 19 with (first
                  | fail
                  | ((with_reducible show wpList _ _ _ (⟨_, .alloc 66, _, _, _, _⟩ :: _) _ _); refine wpList_alloc_is rfl 66 rfl (.agg Z) HZ.out.1 ?_; dsimp only [Value.cells]; try simp only [World.size_alloc])
                  | ((with_reducible show wpList _ _ _ (⟨_, .store 66 _ _, _, _, _, _⟩ :: _) _ _); refine wpList_store_part rfl 66 _ _ rfl wc.heap.size 0 D rfl rfl (heap_alloc_new _ _) (by rw [sizeH, HD.out.1]) (by rw [HD.out.1, HZ.out.2]; omega) HD.out.2 D (by rw [splice_all _ _ (by rw [Array.length_toList, Array.length_toList, HD.out.1, HZ.out.2])]) ?_))
                rw [← HW9.out]
                go_wp2_with fail
                refine HNO.out.mono ?_; rintro e wa ⟨rfl, aa⟩
                have HA := Lib.hid (H9.out.st.adds aa)
                have hwac := row_cell (HROW.out _ HA.out.world) HC.out.2.2.2.2
                have hct := HA.out.hm.count
                rw [hshM_len] at hct
                obtain ⟨m, hm⟩ : ∃ m, m = M.length := ⟨_, rfl⟩
                have HM := Lib.hid hm
                rw [← hm] at hct
                clear aa hm hlk hwc hw9c
                go_wp2_with fail
                refine (HNM.out _).mono ?_; rintro e wa2 ⟨rfl, rfl⟩
                go_wp2
                go_roundg (gk - 1)
                case measure => have := HKG.out; omega
                case rel => exact ⟨k + 1, _, σ', L', M, rfl, by first | (simp; done) | (simp [hwk]; done), by have := HKG.out; omega, ⟨HA.out.weak (Nat.le_refl _) (by omega), HS.out.few⟩⟩
            · rw [h1] at HNM
              rw [decide_eq_false h2] at hth
              subst hth
              have HM3 := Lib.hid h3
              clear h1 h2 h3
              rcases hc with ⟨rfl, rfl⟩ | ⟨rfl, rfl⟩
              all_goals
                go_upto_region 19 with (first
                  | fail
                  | ((with_reducible show wpList _ _ _ (⟨_, .alloc 66, _, _, _, _⟩ :: _) _ _); refine wpList_alloc_is rfl 66 rfl (.agg Z) HZ.out.1 ?_; dsimp only [Value.cells]; try simp only [World.size_alloc])
                  | ((with_reducible show wpList _ _ _ (⟨_, .store 66 _ _, _, _, _, _⟩ :: _) _ _); refine wpList_store_part rfl 66 _ _ rfl wc.heap.size 0 D rfl rfl (heap_alloc_new _ _) (by rw [sizeH, HD.out.1]) (by rw [HD.out.1, HZ.out.2]; omega) HD.out.2 D (by rw [splice_all _ _ (by rw [Array.length_toList, Array.length_toList, HD.out.1, HZ.out.2])]) ?_))
                rw [← HW9.out]
                go_wp2_with fail
                refine HNO.out.mono ?_; rintro e wa ⟨rfl, aa⟩
                have HA := Lib.hid (H9.out.st.adds aa)
                have hwac := row_cell (HROW.out _ HA.out.world) HC.out.2.2.2.2
                have hct := HA.out.hm.count
                rw [hshM_len] at hct
                obtain ⟨m, hm⟩ : ∃ m, m = M.length := ⟨_, rfl⟩
                have HM := Lib.hid hm
                rw [← hm] at hct
                have hm16 : decide ((m : Int) < 16) = false := decide_eq_false (by have := HM3.out; omega)
                have hm16' : decide (m < 16) = false := decide_eq_false (by have := HM3.out; omega)
                clear aa hm hlk hwc hw9c
                go_wp2_with fail
                refine (HNM.out _).mono ?_; rintro e wa2 ⟨rfl, rfl⟩
                go_wp2
                go_roundg (gk - 1)
                case measure => have := HKG.out; omega
                case rel => exact ⟨k + 1, _, σ', L', M, rfl, by first | (simp; done) | (simp [hwk]; done), by have := HKG.out; omega, ⟨HA.out.weak (Nat.le_refl _) (by omega), HS.out.few⟩⟩
end Go.Proofs.Ytfllneenonhonaa.Law14
