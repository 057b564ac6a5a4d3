/- PutMap: the root is the map's: the walk. -/
import Derived.Test.YtpeebeebakjpdaaMapM
import Derived.Test.YtpeebeebakjpdaaRoom9
namespace Go.Proofs.Ytpeebeebakjpdaa.Law9
open Go Go.RowKit Go.Proofs.Ytpeebeebakjpdaa Go.Proofs.Ytpeebeebakjpdaa.ShaW Go.Proofs.Ytpeebeebakjpdaa.Path Go.Proofs.Ytpeebeebakjpdaa.Store
set_option maxHeartbeats 12800000
set_option linter.unusedVariables false

set_option maxRecDepth 100000 in
theorem map_law (keep : Int) (ao : Option Addr) (l : List Pr) (cap : Nat) (w : World) (hl : PairsAt w ao l) (hcap : l.length ≤ cap) (hb : largeB l = false) :
    Calls Try.prog 9 #[.slice ao l.length cap, .int .i64 keep] w fun e w' => e = .returned (.bool true) ∧ Adds w w' := by
  obtain ⟨hlen, hval⟩ := largeB_no hb
  have hlg := fun w1 (a : Adds w w1) => large_ok cap (hl.keep a (fun _ h => h.elim))
  rw [hb] at hlg
  have HL := Lib.hid hl
  have HV := Lib.hid hval
  obtain ⟨len, hle⟩ : ∃ len, len = l.length := ⟨_, rfl⟩
  rw [← hle] at hlg hlen hcap ⊢
  have HLG := Lib.hid hlg
  have HLE := Lib.hid (And.intro hle (And.intro hlen hcap))
  obtain ⟨Z, hZ⟩ : ∃ Z, Z = brow (List.replicate 32 0) := ⟨_, rfl⟩
  have hzh := zeroH
  have hzb := hash_built
  rw [← hZ] at hzh hzb
  have hZs : Z.size = 32 := by rw [hZ]; rfl
  have hz1 : ∀ v ∈ Z.toList, v.oneCell' = true := by rw [hZ]; exact brow_one _
  have HZ := Lib.hid (And.intro hzh (And.intro hZs (And.intro hzb (And.intro hz1 hZ))))
  clear hl hb hlg hval hle hcap hlen hzh hzb hZs hz1 hZ
  go_enter Try.func9, Try.ntmps9
  go_wp2_with fail
  refine (awake_ok _).mono ?_; rintro e w1 ⟨rfl, a1⟩
  have A1 := Lib.hid a1
  clear a1
  go_wp2_with fail
  refine (HLG.out _ A1.out).mono ?_; rintro e w2 ⟨rfl, rfl⟩
  clear HLG
  go_wp2_with fail
  refine (New_own 8256 w1 (by decide) (by decide)).mono ?_; rintro e w3 ⟨s, rfl, h3⟩
  have H3 := Lib.hid (h3.ow.less (G' := fun _ => False) (fun _ h => h.elim))
  clear h3
  go_upto_region 8 with (first
    | fail
    | ((with_reducible show wpList _ _ _ (⟨_, .build 40 #[], _, _, _, _⟩ :: _) _ _); refine wpList_build_none rfl 40 rfl Z HZ.out.2.2.1 ?_)
    | ((with_reducible show wpList _ _ _ (⟨_, .alloc 40, _, _, _, _⟩ :: _) _ _); refine wpList_alloc_is rfl 40 rfl (.agg Z) HZ.out.1 ?_; dsimp only [Value.cells]; try simp only [World.size_alloc])
    | ((with_reducible show wpList _ _ _ (⟨_, .store 40 _ _, _, _, _, _⟩ :: _) _ _); refine wpList_store_part rfl 40 _ _ rfl w3.heap.size 0 Z rfl rfl (heap_alloc_new _ _) (by rw [sizeH, HZ.out.2.1]) (by rw [HZ.out.2.1]; omega) HZ.out.2.2.2.1 Z (by rw [splice_all _ _ rfl]) ?_))
  obtain ⟨w4, hw4⟩ : ∃ w4, w4 = (w3.alloc (.cells Z 40)).setRow w3.heap.size Z := ⟨_, rfl⟩
  rw [← hw4]
  obtain ⟨B, hB⟩ : ∃ B, B = w3.heap.size := ⟨_, rfl⟩
  rw [← hB] at hw4 ⊢
  have a34 : Adds w3 w4 := by rw [hw4]; exact ((Ch.refl _ _).alloc _).setRow (.inr (by omega)) _
  have r4 : w4.heap[B]? = some (.cells Z 40 (0, 0)) := by rw [hw4, hB]; exact row_setRow_same (heap_alloc_new _ _) _
  have m4 : MapSt w1 w4 s B 0 0 ⟨8256, [], []⟩ [] (258 * 0) (1000 * 0) :=
    ⟨H3.out.more a34 (fun k hk => .inr ⟨by omega, by rw [hk]; exact row_lt r4⟩), by have := H3.out.world.size; omega, Db.new 8256 (by decide) (by decide), rfl, Nat.le_refl _, Nat.le_refl _, List.replicate 32 0, rfl, by rw [← HZ.out.2.2.2.2]; exact r4, fun h => absurd rfl h⟩
  have M4 := Lib.hid m4
  clear hw4 hB a34 r4 m4 H3
  go_wp2_with fail
  go_loopg [8, 9, 11] len (fun g s8 s9 s11 wr => ∃ (k : Nat) (root kept : Int) (σ : SlabSt Nd), s8 = .int .i64 root ∧ s9 = .int .i64 kept ∧ s11 = .int .i64 k ∧ k + g = len ∧ MapSt w1 wr s B root kept σ (entsP (l.take k)) (258 * k) (1000 * k))
  case atStart => exact ⟨0, 0, 0, _, rfl, rfl, rfl, by omega, M4.out⟩
  case round =>
    obtain ⟨k, root, kept, σ, rfl, rfl, rfl, hk, hst⟩ := hrel
    have HS := Lib.hid hst
    have HKG := Lib.hid hk
    clear M4 hst
    by_cases hkl : k = len
    · have hx1 : decide ((k : Int) < (len : Int)) = false := decide_eq_false (by omega)
      have hx1' : decide (k < len) = false := decide_eq_false (by omega)
      clear hk hkl
      by_cases h0 : kept = 0
      · subst h0
        have A := Lib.hid (A1.out.trans HS.out.world (fun _ h => h.elim))
        clear HS
        go_wp2
        refine wp_region_plan (fun _ => True) 19 [(0, false), (1, false), (2, false), (3, false), (4, false), (5, false), (6, false), (8, false), (7, true), (9, false), (10, false), (11, false), (12, false), (13, true), (14, false), (15, false), (16, false), (17, false), (18, false)] (by kernel_rfl) (by kernel_rfl) ?_ ?_
        · trivial
        iterate 2
          refine plan_look (v := .bool true) rfl rfl (fun w0 hS => (by clear hS; go_simp; try rfl)) ?_
          simp only [Act.put, List.setIfInBounds_toArray, List.set_cons_succ, List.set_cons_zero]
        iterate 1 refine plan_look rfl rfl (fun w0 hS => (by go_simp; try rfl)) ?_
        simp only [Act.put, List.setIfInBounds_toArray, List.set_cons_succ, List.set_cons_zero]
        iterate 2
          refine plan_look (v := .bool true) rfl rfl (fun w0 hS => (by clear hS; go_simp; try rfl)) ?_
          simp only [Act.put, List.setIfInBounds_toArray, List.set_cons_succ, List.set_cons_zero]
        iterate 3
          refine plan_skip rfl rfl ?_
          simp only [Act.put, List.setIfInBounds_toArray, List.set_cons_succ, List.set_cons_zero]
        refine plan_do rfl ?_
        go_wp2
        refine ⟨trivial, ?_⟩
        iterate 4
          refine plan_skip rfl rfl ?_
          simp only [Act.put, List.setIfInBounds_toArray, List.set_cons_succ, List.set_cons_zero]
        refine plan_do rfl ?_
        go_wp2
        refine ⟨trivial, ?_⟩
        iterate 2
          refine plan_skip rfl rfl ?_
          simp only [Act.put, List.setIfInBounds_toArray, List.set_cons_succ, List.set_cons_zero]
        iterate 3
          refine plan_look (v := .bool true) rfl rfl (fun w0 hS => (by clear hS; go_simp; try rfl)) ?_
          simp only [Act.put, List.setIfInBounds_toArray, List.set_cons_succ, List.set_cons_zero]
        refine plan_end ?_; simp only [List.drop_succ_cons, List.drop_zero]
        go_wp2
        refine NoPanic.normal ?_
        go_wp2
        go_ret
        exact ⟨rfl, A.out.drew⟩
      · have f0 : (kept == 0) = false := by simpa using h0
        have f0' : decide (kept = 0) = false := decide_eq_false h0
        obtain ⟨hb, hb1, hb2, hb3⟩ := HS.out.row
        obtain ⟨hb4, _, hb5⟩ := hb3 h0
        obtain ⟨F, hF⟩ := HS.out.own.at
        have hdg := fun w' (a : Adds wr w') => Digest_ok (hF.adds a) kept
        have hhl := fun w' (a : Adds wr w') => Held_ok (hF.adds a) kept
        obtain ⟨hh, hhh⟩ : ∃ hh, hh = (nd σ kept).held := ⟨_, rfl⟩
        have hh1 : decide (1 ≤ hh) = true := decide_eq_true (by rw [hhh]; exact hb4)
        rw [← hhh] at hhl
        have heq := eql_keys 40 Try.underlying40 hb hb hb1 hb1
        obtain ⟨O, hO⟩ : ∃ O, O = brow hb := ⟨_, rfl⟩
        have hos : O.size = 32 := by rw [hO, brow_size]; exact hb1
        rw [hb5, ← hO] at hdg
        rw [← hO] at heq hb2
        simp only [decide_true] at heq
        have HDG := Lib.hid hdg
        have HHL := Lib.hid hhl
        have HO := Lib.hid (And.intro hos hb2)
        have A := Lib.hid (A1.out.trans HS.out.world (fun _ h => h.elim))
        clear h0 hb1 hb2 hb3 hb4 hb5 hF hdg hhl hhh hO hos HS
        go_wp2
        refine wp_region_plan (fun w0 => w0.heap[B]? = some (.cells O 40 (0, 0))) 19 [(0, false), (1, false), (2, false), (3, false), (4, false), (5, false), (6, false), (8, false), (7, true), (9, false), (10, false), (11, false), (12, false), (13, true), (14, false), (15, false), (16, false), (17, false), (18, false)] (by kernel_rfl) (by kernel_rfl) ?_ ?_
        · exact row_drew HO.out.2
        iterate 2
          refine plan_look (v := .bool true) rfl rfl (fun w0 hS => (by clear hS; go_simp; try rfl)) ?_
          simp only [Act.put, List.setIfInBounds_toArray, List.set_cons_succ, List.set_cons_zero]
        iterate 1 refine plan_look rfl rfl (fun w0 hS => (by go_simp; try rfl)) ?_
        simp only [Act.put, List.setIfInBounds_toArray, List.set_cons_succ, List.set_cons_zero]
        iterate 2
          refine plan_look (v := .bool false) rfl rfl (fun w0 hS => (by clear hS; go_simp; try rfl)) ?_
          simp only [Act.put, List.setIfInBounds_toArray, List.set_cons_succ, List.set_cons_zero]
        iterate 2
          iterate 1 refine plan_look rfl rfl (fun w0 hS => (by go_simp; try rfl)) ?_
          simp only [Act.put, List.setIfInBounds_toArray, List.set_cons_succ, List.set_cons_zero]
        refine plan_gload_part (cur := O) (t := 40) (fr := (0, 0)) rfl rfl 40 _ rfl B 0 32 rfl (fun w0 hS => hS) Try.underlying40 rfl sizeH (by rw [HO.out.1]; omega) O (by have := HO.out.1; simp [← this]) ?_
        simp only [Act.put, List.setIfInBounds_toArray, List.set_cons_succ, List.set_cons_zero]
        refine plan_do rfl ?_
        go_wp2_with fail
        refine (HDG.out _ (Ch.refl _ _).drew).mono ?_; rintro e we ⟨rfl, ae⟩
        have Me := Lib.hid (And.intro ((Ch.refl (fun _ => False) wr).drew.trans ae (fun _ h => h.elim)) (ae.row (row_drew HO.out.2) id))
        clear ae
        dsimp only
        go_step
        refine wpList_nil ?_
        change _ ∧ _
        refine ⟨Me.out.2, ?_⟩
        iterate 2
          refine plan_look (v := .bool true) rfl rfl (fun w0 hS => (by clear hS; go_simp; try rfl)) ?_
          simp only [Act.put, List.setIfInBounds_toArray, List.set_cons_succ, List.set_cons_zero]
        iterate 2
          iterate 1 refine plan_look rfl rfl (fun w0 hS => (by go_simp; try rfl)) ?_
          simp only [Act.put, List.setIfInBounds_toArray, List.set_cons_succ, List.set_cons_zero]
        refine plan_do rfl ?_
        go_wp2_with fail
        refine (HHL.out _ Me.out.1).mono ?_; rintro e wf ⟨rfl, af⟩
        have Mf := Lib.hid (And.intro (Me.out.1.trans af (fun _ h => h.elim)) (af.row Me.out.2 id))
        clear af
        dsimp only
        go_step
        refine wpList_nil ?_
        change _ ∧ _
        refine ⟨Mf.out.2, ?_⟩
        iterate 5
          refine plan_look (v := .bool true) rfl rfl (fun w0 hS => (by clear hS; go_simp; try rfl)) ?_
          simp only [Act.put, List.setIfInBounds_toArray, List.set_cons_succ, List.set_cons_zero]
        refine plan_end ?_; simp only [List.drop_succ_cons, List.drop_zero]
        go_wp2
        refine NoPanic.normal ?_
        go_wp2
        go_ret
        exact ⟨rfl, A.out.trans Mf.out.1 (fun _ h => h.elim)⟩
    · have hx1 : decide ((k : Int) < (len : Int)) = true := decide_eq_true (by omega)
      have hx1' : decide (k < len) = true := decide_eq_true (by omega)
      have hkl' : k < l.length := by have := HLE.out.1; omega
      have hklen : (k : Int) < (len : Int) := by omega
      have hklen' : k < len := by omega
      obtain ⟨x, hx⟩ : ∃ x, l[k]? = some x := ⟨_, List.getElem?_eq_getElem hkl'⟩
      obtain ⟨g0, off, rfl, hp⟩ := HL.out.2 k x hx
      have hg := HL.out.1 x (List.mem_of_getElem? hx)
      obtain ⟨cur, ty, fr, c1, c2, c3⟩ := hp
      rw [Pr.size hg.key] at c2 c3
      obtain ⟨ck, cv⟩ := pair_parts hg.key c3
      obtain ⟨K, hK⟩ : ∃ K, K = brow x.key := ⟨_, rfl⟩
      rw [← hK] at ck
      obtain ⟨xo, xc, hxv, _, _⟩ := hg.val.form
      obtain ⟨n, hnl⟩ : ∃ n, n = x.val.length := ⟨_, rfl⟩
      rw [hxv, ← hnl] at cv
      obtain ⟨c, hc258, hcost, hput⟩ := Put_cost (s := s) HS.out.db hg.key (HV.out x (List.mem_of_getElem? hx))
      have aw : Adds w wr := A1.out.trans HS.out.world (fun _ h => h.elim)
      obtain ⟨F, hF⟩ := HS.out.own.at
      replace hcost := hcost (hF.adds (Ch.refl _ _).drew) (hg.val.keep aw.drew (fun _ _ h => h))
      have hoc := fun w5 (a : Adds wr w5) => Occupied_ok (hF.adds a)
      obtain ⟨us, hus⟩ : ∃ us, us = σ.used := ⟨_, rfl⟩
      rw [← hus] at hoc
      have hus2 : us = Store.live σ := by rw [hus]; exact HS.out.db.good.used
      rw [← hK, hxv, ← hnl] at hcost
      have HC := Lib.hid (And.intro c1 (And.intro c2 (And.intro ck cv)))
      have HX := Lib.hid (And.intro hx (And.intro hK (And.intro hxv (And.intro hnl hg))))
      have HCO := Lib.hid hcost
      have HPU := Lib.hid (fun w0 w5 σ2 vv h1 h2 h3 => hput (w0 := w0) (w := w5) (σ2 := σ2) (G := fun j => j = B) (vv := vv) h1 h2 h3)
      have HOC := Lib.hid hoc
      have HUS := Lib.hid (And.intro hus2 hc258)
      have AW := Lib.hid aw
      clear hk hkl hx hg c1 c2 c3 ck cv hK hxv hnl hcost hput aw hF hoc hus hus2 hc258
      go_wp2
      refine wp_region_plan (fun w0 => w0.heap[g0]? = some (.cells cur ty fr)) 18 [(0, false), (1, false), (2, false), (3, false), (4, false), (5, false), (6, false), (7, false), (8, false), (9, false), (10, false), (11, false), (12, true), (13, false), (14, false), (15, false), (16, false), (17, false)] (by kernel_rfl) (by kernel_rfl) ?_ ?_
      · exact AW.out.drew.row HC.out.1 id
      iterate 6
        iterate 1 refine plan_look rfl rfl (fun w0 hS => (by go_simp; try rfl)) ?_
        simp only [Act.put, List.setIfInBounds_toArray, List.set_cons_succ, List.set_cons_zero]
      refine plan_load_part (cur := cur) (t := ty) (fr := fr) rfl rfl 29 _ rfl g0 (off + k * 33) 32 rfl (fun w0 hS => hS) Try.underlying29 rfl sizeP (by have := HC.out.2.1; omega) K HC.out.2.2.1 ?_
      simp only [Act.put, List.setIfInBounds_toArray, List.set_cons_succ, List.set_cons_zero]
      iterate 4
        iterate 1 refine plan_look rfl rfl (fun w0 hS => (by go_simp; try rfl)) ?_
        simp only [Act.put, List.setIfInBounds_toArray, List.set_cons_succ, List.set_cons_zero]
      refine plan_look (v := .slice xo n xc) rfl rfl (fun w0 hS => (by have e0 := row_cell hS HC.out.2.2.2; clear hS; go_simp; try rfl)) ?_
      simp only [Act.put, List.setIfInBounds_toArray, List.set_cons_succ, List.set_cons_zero]
      refine plan_do rfl ?_
      go_wp2_with fail
      refine HCO.out.mono ?_; rintro e w5 ⟨rfl, a5⟩
      have M5 := Lib.hid (HS.out.adds ((Ch.refl (fun _ => False) wr).drew.trans a5 (fun _ h => h.elim)))
      have A5 := Lib.hid ((Ch.refl (fun _ => False) wr).drew.trans a5 (fun _ h => h.elim))
      clear a5
      dsimp only
      go_step
      refine wpList_nil ?_
      change _ ∧ _
      refine ⟨(AW.out.trans A5.out (fun _ h => h.elim)).row HC.out.1 id, ?_⟩
      iterate 5
        refine plan_look rfl rfl (fun w0 hS => (by clear hS; go_simp; try rfl)) ?_
        simp only [Act.put, List.setIfInBounds_toArray, List.set_cons_succ, List.set_cons_zero]
      refine plan_end ?_; simp only [List.drop_succ_cons, List.drop_zero]
      go_wp2
      refine NoPanic.normal ?_
      go_wp2_with fail
      refine (HOC.out _ A5.out).mono ?_; rintro e w6 ⟨rfl, rfl⟩
      go_upto_region 13 with fail
      go_cut [60] (fun s60 wx => ∃ b : Bool, s60 = .bool b ∧ (b = true → 0 < root) ∧ wx = w5)
      case first =>
        by_cases hi : (k : Int) = keep
        · have e1 : ((k : Int) == keep) = true := by simpa using hi
          have e1' : decide ((k : Int) = keep) = true := decide_eq_true hi
          clear hi
          by_cases hr : 0 < root
          · have e2 : decide (0 < root) = true := decide_eq_true hr
            go_wp2
            go_meet
            case rel => exact ⟨true, rfl, fun _ => hr, rfl⟩
          · have e2 : decide (0 < root) = false := decide_eq_false hr
            go_wp2
            go_meet
            case rel => exact ⟨false, rfl, fun h => (by cases h), rfl⟩
        · have e1 : ((k : Int) == keep) = false := by simpa using hi
          have e1' : decide ((k : Int) = keep) = false := decide_eq_false hi
          clear hi
          go_wp2
          go_meet
          case rel => exact ⟨false, rfl, fun h => (by cases h), rfl⟩
      case rest =>
        obtain ⟨b, rfl, hb, rfl⟩ := hcut
        have HB := Lib.hid hb
        clear hb
        go_upto_if 60 with fail
        go_cut [9] (fun s9 wx => ∃ (kept' : Int) (σ2 : SlabSt Nd), s9 = .int .i64 kept' ∧ (∀ j, sk σ2 j = sk σ j) ∧ Store.live σ2 = Store.live σ ∧ MapSt w1 wx s B root kept' σ2 (entsP (l.take k)) (258 * k) (1000 * k + 1))
        case first =>
          cases b with
          | false =>
            go_wp2
            go_meet
            case rel => exact ⟨kept, σ, rfl, fun _ => rfl, rfl, M5.out.more (Nat.le_refl _) (by omega)⟩
          | true =>
            have hr := HB.out rfl
            obtain ⟨q1, q2, q3, q4, q5, q6, q7⟩ := hold_db M5.out.db (by omega) (by have := M5.out.total; have := HLE.out.2.1; omega)
            have hho := M5.out.own.hold root
            rw [q1] at hho
            have HHO := Lib.hid hho
            obtain ⟨hb, hb1, hb2, _⟩ := M5.out.row
            have hh1 : 1 ≤ Store.held σ root := by
              rcases M5.out.db.held with h | h
              · omega
              · exact h
            have HQ := Lib.hid (And.intro q2 (And.intro q3 (And.intro q4 (And.intro q5 (And.intro q6 (And.intro q7 hh1))))))
            have HBB := Lib.hid (And.intro hb1 hb2)
            obtain ⟨σ2, hσ2⟩ : ∃ τ, τ = (holdS σ root).2 := ⟨_, rfl⟩
            rw [← hσ2] at HQ HHO
            clear hr q1 q2 q3 q4 q5 q6 q7 hho hb1 hb2 hh1 hσ2
            go_wp2_with fail
            refine HHO.out.mono ?_; rintro e w6 ⟨rfl, o6, b6⟩
            obtain ⟨F6, hF6⟩ := o6.at
            have hdg := Digest_ok hF6 root
            have hdl := hF6.digest_length root
            obtain ⟨DD, hDD⟩ : ∃ x, x = brow (digestOf σ2 root) := ⟨_, rfl⟩
            have hDs : DD.size = 32 := by rw [hDD, brow_size, hdl]
            have hDo : ∀ v ∈ DD.toList, v.oneCell' = true := by rw [hDD]; exact brow_one _
            rw [← hDD] at hdg
            have HDG := Lib.hid hdg
            have HD := Lib.hid (And.intro hDs (And.intro hDo (And.intro hDD hdl)))
            have H6 := Lib.hid (And.intro o6 (b6.row HBB.out.2 rfl))
            clear o6 b6 hF6 hdg hdl hDD hDs hDo HHO
            go_wp2_with fail
            refine HDG.out.mono ?_; rintro e w7 ⟨rfl, a7⟩
            have H7 := Lib.hid (And.intro (H6.out.1.adds a7) (a7.row H6.out.2 id))
            clear a7
            go_wp2_with (first
              | fail
              | ((with_reducible show wpList _ _ _ (⟨_, .store 40 _ _, _, _, _, _⟩ :: _) _ _); refine wpList_store_part rfl 40 _ _ rfl B 0 DD rfl rfl H7.out.2 (by rw [sizeH, HD.out.1]) (by rw [HD.out.1, brow_size, HBB.out.1]; omega) HD.out.2.1 DD (by rw [splice_all _ _ (by rw [Array.length_toList, Array.length_toList, HD.out.1, brow_size, HBB.out.1])]) ?_))
            go_meet
            case rel =>
              obtain ⟨q2, q3, q4, q5, q6, q7, hh1⟩ := HQ.out
              have hheld : Store.held σ2 root = Store.held σ root + 1 := by rw [q4, if_pos rfl]
              refine ⟨root, σ2, rfl, q3, q5, ⟨H7.out.1.own ((Ch.refl _ _).setRow (.inl ⟨rfl, M5.out.base⟩) DD), M5.out.base, q2, q7.trans M5.out.room, by rw [q5]; exact M5.out.live, by rw [q6]; have := M5.out.total; omega, digestOf σ2 root, HD.out.2.2.2, by rw [← HD.out.2.2.1]; exact row_setRow_same H7.out.2 DD, fun _ => ⟨by omega, fun _ => by omega, rfl⟩⟩⟩
        case rest =>
          obtain ⟨kept', σ2, rfl, hsk, hlv, hst2⟩ := hcut
          have M6 := Lib.hid hst2
          have HSK := Lib.hid (And.intro hsk hlv)
          have A6 := Lib.hid (A1.out.trans hst2.world (fun _ h => h.elim))
          clear hsk hlv hst2 M5 A5 HS HB
          go_wp2
          refine wp_region_plan (fun w0 => w0.heap[g0]? = some (.cells cur ty fr)) 18 [(0, false), (1, false), (2, false), (3, false), (4, false), (5, false), (6, false), (7, false), (8, false), (9, false), (10, false), (11, false), (12, true), (13, false), (14, false), (15, false), (16, false), (17, false)] (by kernel_rfl) (by kernel_rfl) ?_ ?_
          · exact A6.out.drew.row HC.out.1 id
          iterate 6
            iterate 1 refine plan_look rfl rfl (fun w0 hS => (by go_simp; try rfl)) ?_
            simp only [Act.put, List.setIfInBounds_toArray, List.set_cons_succ, List.set_cons_zero]
          refine plan_load_part (cur := cur) (t := ty) (fr := fr) rfl rfl 29 _ rfl g0 (off + k * 33) 32 rfl (fun w0 hS => hS) Try.underlying29 rfl sizeP (by have := HC.out.2.1; omega) K HC.out.2.2.1 ?_
          simp only [Act.put, List.setIfInBounds_toArray, List.set_cons_succ, List.set_cons_zero]
          iterate 4
            iterate 1 refine plan_look rfl rfl (fun w0 hS => (by go_simp; try rfl)) ?_
            simp only [Act.put, List.setIfInBounds_toArray, List.set_cons_succ, List.set_cons_zero]
          refine plan_look (v := .slice xo n xc) rfl rfl (fun w0 hS => (by have e0 := row_cell hS HC.out.2.2.2; clear hS; go_simp; try rfl)) ?_
          simp only [Act.put, List.setIfInBounds_toArray, List.set_cons_succ, List.set_cons_zero]
          refine plan_do rfl ?_
          go_wp2_with fail
          have hg7 := HX.out.2.2.2.2.keep (A6.out.drew) (fun _ h => h.elim)
          have hb7 := hg7.val
          have hv7 := hg7.blk
          have hP := HPU.out w1 _ σ2 x.vv HSK.out.1 (M6.out.own.adds (Ch.refl (fun _ => False) wc).drew) M6.out.db hb7 hv7 (by have := M6.out.live; have := HLE.out.2.1; rw [M6.out.room]; omega) (by have := M6.out.total; have := HLE.out.2.1; omega)
          rw [← HX.out.2.1, HX.out.2.2.1, ← HX.out.2.2.2.1] at hP
          refine hP.mono ?_; rintro e w8 ⟨r, σ', rfl, o8, b8, W8, D8, hs8⟩
          have hr0 := W8.ne
          have hheld : 1 ≤ Store.held σ' r := by
            rcases D8.held with h | h
            · exact absurd h hr0
            · exact h
          obtain ⟨hh, hhh⟩ : ∃ hh, hh = (nd σ' r).held := ⟨_, rfl⟩
          have hh1 : 1 ≤ hh := by rw [hhh]; exact hheld
          have hus' : σ'.used ≤ us + c := by
            rw [D8.good.used]
            have := W8.live
            have := HSK.out.2
            have := HUS.out.1
            omega
          have hM8 := (M6.out.adds (Ch.refl (fun _ => False) wc).drew).put o8 b8 W8 D8 hs8
          rw [← entsP_next HX.out.1] at hM8
          have M8 := Lib.hid hM8
          obtain ⟨F8, hF8⟩ := o8.at
          have hoc8 := Occupied_ok hF8
          have hhl8 := Held_ok hF8 r
          obtain ⟨u8, hu8⟩ : ∃ u, u = σ'.used := ⟨_, rfl⟩
          rw [← hu8] at hus' hoc8
          rw [← hhh] at hhl8
          have husk : us ≤ 258 * k := by have := M6.out.live; have := HSK.out.2; have := HUS.out.1; omega
          have HOC8 := Lib.hid hoc8
          have HHL8 := Lib.hid hhl8
          have A8 := Lib.hid (A1.out.trans o8.world (fun _ h => h.elim))
          have HN := Lib.hid (And.intro hr0 (And.intro hh1 (And.intro hus' husk)))
          clear hP hg7 hb7 hv7 o8 b8 W8 D8 hs8 hr0 hheld hh1 hus' hM8 hF8 hoc8 hhl8 hu8 husk hhh M6 HSK HPU HCO HOC
          dsimp only
          go_step
          refine wpList_nil ?_
          change _ ∧ _
          refine ⟨A8.out.row HC.out.1 id, ?_⟩
          iterate 5
            refine plan_look rfl rfl (fun w0 hS => (by clear hS; go_simp; try rfl)) ?_
            simp only [Act.put, List.setIfInBounds_toArray, List.set_cons_succ, List.set_cons_zero]
          refine plan_end ?_; simp only [List.drop_succ_cons, List.drop_zero]
          go_wp2
          refine NoPanic.normal ?_
          have hlen16 := HLE.out.2.1
          have hc258 := HUS.out.2
          have f1 : decide ((258 : Int) < (c : Int)) = false := decide_eq_false (by omega)
          have f1' : decide (258 < c) = false := decide_eq_false (by omega)
          have f2 : IntKind.i64.wrap ((us : Int) + (c : Int)) = (us : Int) + (c : Int) := by have := HN.out.2.2.2; rw [IntKind.wrap]; simp [IntKind.signed, IntKind.bits]; omega
          have f3 : decide ((us : Int) + (c : Int) < (u8 : Int)) = false := decide_eq_false (by have := HN.out.2.2.1; omega)
          have f4 : (r == 0) = false := by simpa using HN.out.1
          have f4' : decide (r = 0) = false := decide_eq_false HN.out.1
          have f5 : decide (hh < 1) = false := decide_eq_false (by have := HN.out.2.1; omega)
          clear hlen16 hc258
          go_wp2_with fail
          refine HOC8.out.mono ?_; rintro e w9 ⟨rfl, rfl⟩
          go_wp2_with fail
          refine HHL8.out.mono ?_; rintro e w9 ⟨rfl, a9⟩
          have A9 := Lib.hid (And.intro (M8.out.adds a9) (A8.out.trans a9 (fun _ h => h.elim)))
          have HC258 := Lib.hid HUS.out.2
          clear a9 f1 f1' f2 f3 f4 f4' HOC8 HHL8 HN M8 A8 HUS
          have hsl : ∀ w0 : World, (Instr.sliceAt 22 (.slice (some ⟨g0, off, none⟩) len cap) none (some (.int .i64 ((k : Int) + 1))) none).run Try.prog w0 = .ok (.slice (some ⟨g0, off, none⟩) (k + 1) cap) w0 := fun w0 => run_pairs_h w0 (some ⟨g0, off, none⟩) len cap (k + 1) (by have := HLE.out.2.2; omega)
          have hwk : wrap64 ((k : Int) + 1) = (k : Int) + 1 := by have := HLE.out.2.1; unfold wrap64; omega
          have hb1 : 0 ≤ (k : Int) + 1 := by omega
          have hb2 : (k : Int) + 1 ≤ (cap : Int) := by have := HLE.out.2.2; omega
          have hb3 : ((k : Int) + 1).toNat = k + 1 := by omega
          have hpr := fun w' (a : Adds w w') => pairs_ok cap ((HL.out.take (k + 1)).keep a (fun _ h => h.elim)) (by rw [List.length_take]; have := HLE.out.2.1; omega)
          rw [List.length_take, Nat.min_eq_left (by omega)] at hpr
          have HPR := Lib.hid hpr
          clear hpr
          go_wp2_with fail
          refine (HPR.out _ A9.out.2).mono ?_; rintro e wa ⟨v, out, rfl, hpo, hrow, aa⟩
          have hgood : ∀ y ∈ out, y.Good wa := fun y hy => (HL.out.1 y (List.mem_of_mem_take (hpo.mem y hy))).keep (A9.out.2.trans aa (fun _ h => h.elim)) (fun _ h => h.elim)
          obtain ⟨ap, cp, rfl, hpat⟩ := RowP.pairs hrow hgood
          have hfine : FineP out := pairs_fine hpo (by rw [List.length_take]; have := HLE.out.2.1; omega) (fun y hy => HV.out y (List.mem_of_mem_take hy))
          have hrt := Root_ok cp hpat
          have hperm := pairs_ents hpo
          have Ma := Lib.hid (And.intro (A9.out.1.adds aa) (A9.out.2.trans aa (fun _ h => h.elim)))
          obtain ⟨no, hno⟩ : ∃ no, no = out.length := ⟨_, rfl⟩
          rw [← hno] at hrt ⊢
          have HRT := Lib.hid hrt
          have HPO := Lib.hid (And.intro hfine (And.intro hperm hno))
          clear hpo hrow aa hgood hpat hfine hrt hperm hno A9
          go_wp2_with fail
          refine HRT.out.mono ?_; rintro e wb ⟨ab, hb, cc, rfl, hbl, hc0, hd⟩
          obtain rfl : cc = 0 := hc0.2 HPO.out.1
          have hdig : hb = digestOf σ' r := by
            rw [Ma.out.1.digest, hd HPO.out.1]
            exact congrArg Tr.dig (tree_perm 256 HPO.out.2.1.symm)
          have hcount : (nd σ' r).size = (no : Int) := by
            have h1 := HPO.out.2.1.length_eq
            rw [List.length_map] at h1
            have h2 : out.length ≤ 4096 := HPO.out.1.1
            rw [Ma.out.1.size (by omega), HPO.out.2.2, h1]
          obtain ⟨O, hO⟩ : ∃ O, O = brow hb := ⟨_, rfl⟩
          have hos : O.size = 32 := by rw [hO, brow_size]; exact hbl
          have ho1 := brow_one hb
          have heq := neq_keys 40 Try.underlying40 hb hb hbl hbl
          rw [← hO] at ho1 heq
          simp only [decide_true, Bool.not_true] at heq
          have HO := Lib.hid (And.intro hO (And.intro hos ho1))
          have HDG := Lib.hid (And.intro hdig hcount)
          have Mb := Lib.hid (And.intro (Ma.out.1.adds ab) (Ma.out.2.trans ab (fun _ h => h.elim)))
          clear ab hbl hc0 hd hdig hcount hO hos ho1 HRT Ma
          rw [HO.out.1.symm]
          go_upto_region 22 with (first
            | fail
            | ((with_reducible show wpList _ _ _ (⟨_, .alloc 40, _, _, _, _⟩ :: _) _ _); refine wpList_alloc_is rfl 40 rfl (.agg Z) HZ.out.1 ?_; dsimp only [Value.cells]; try simp only [World.size_alloc])
            | ((with_reducible show wpList _ _ _ (⟨_, .store 40 _ _, _, _, _, _⟩ :: _) _ _); refine wpList_store_part rfl 40 _ _ rfl wb.heap.size 0 O rfl rfl (heap_alloc_new _ _) (by rw [sizeH, HO.out.2.1]) (by rw [HO.out.2.1, HZ.out.2.1]; omega) HO.out.2.2 O (by rw [splice_all _ _ (by rw [Array.length_toList, Array.length_toList, HO.out.2.1, HZ.out.2.1])]) ?_))
          obtain ⟨wd, hwd⟩ : ∃ wd, wd = (wb.alloc (.cells Z 40)).setRow wb.heap.size O := ⟨_, rfl⟩
          rw [← hwd]
          have rd : wd.heap[wb.heap.size]? = some (.cells O 40 (0, 0)) := by rw [hwd]; exact row_setRow_same (heap_alloc_new _ _) _
          have ad : Adds wb wd := by rw [hwd]; exact ((Ch.refl _ _).alloc _).setRow (.inr (Nat.le_refl _)) _
          have Md := Lib.hid (And.intro (Mb.out.1.adds ad) (And.intro (Mb.out.2.trans ad (fun _ h => h.elim)) rd))
          obtain ⟨Fd, hFd⟩ := Md.out.1.own.at
          have hdg := fun w' (a : Adds wd w') => Digest_ok (hFd.adds a) r
          have hsz := fun w' (a : Adds wd w') => Size_ok (hFd.adds a) r
          rw [← HDG.out.1, ← HO.out.1] at hdg
          rw [HDG.out.2] at hsz
          have HDD := Lib.hid hdg
          have HSZ := Lib.hid hsz
          clear hwd rd ad hFd hdg hsz HDG Mb
          refine wp_region_plan (fun w0 => w0.heap[wb.heap.size]? = some (.cells O 40 (0, 0))) 21 [(0, false), (1, false), (2, false), (3, false), (4, false), (6, false), (5, true), (7, false), (8, false), (9, false), (10, false), (11, false), (13, false), (14, false), (15, false), (16, false), (12, true), (17, true), (18, false), (19, false), (20, false)] (by kernel_rfl) (by kernel_rfl) ?_ ?_
          · exact row_drew Md.out.2.2
          iterate 1 refine plan_look rfl rfl (fun w0 hS => (by go_simp; try rfl)) ?_
          simp only [Act.put, List.setIfInBounds_toArray, List.set_cons_succ, List.set_cons_zero]
          iterate 2
            refine plan_look (v := .bool false) rfl rfl (fun w0 hS => (by clear hS; go_simp; try rfl)) ?_
            simp only [Act.put, List.setIfInBounds_toArray, List.set_cons_succ, List.set_cons_zero]
          iterate 2
            iterate 1 refine plan_look rfl rfl (fun w0 hS => (by go_simp; try rfl)) ?_
            simp only [Act.put, List.setIfInBounds_toArray, List.set_cons_succ, List.set_cons_zero]
          refine plan_gload_part (cur := O) (t := 40) (fr := (0, 0)) rfl rfl 40 _ rfl wb.heap.size 0 32 rfl (fun w0 hS => hS) Try.underlying40 rfl sizeH (by rw [HO.out.2.1]; omega) O (by have := HO.out.2.1; simp [← this]) ?_
          simp only [Act.put, List.setIfInBounds_toArray, List.set_cons_succ, List.set_cons_zero]
          refine plan_do rfl ?_
          go_wp2_with fail
          refine (HDD.out _ (Ch.refl _ _).drew).mono ?_; rintro e we ⟨rfl, ae⟩
          have Me := Lib.hid (And.intro ((Ch.refl (fun _ => False) wd).drew.trans ae (fun _ h => h.elim)) (ae.row (row_drew Md.out.2.2) id))
          clear ae
          dsimp only
          go_step
          refine wpList_nil ?_
          change _ ∧ _
          refine ⟨Me.out.2, ?_⟩
          iterate 3
            refine plan_look (v := .bool false) rfl rfl (fun w0 hS => (by clear hS; go_simp; try rfl)) ?_
            simp only [Act.put, List.setIfInBounds_toArray, List.set_cons_succ, List.set_cons_zero]
          iterate 4
            iterate 1 refine plan_look rfl rfl (fun w0 hS => (by go_simp; try rfl)) ?_
            simp only [Act.put, List.setIfInBounds_toArray, List.set_cons_succ, List.set_cons_zero]
          refine plan_look (v := .int .i64 ((k : Int) + 1)) rfl rfl (fun w0 hS => (by clear hS; go_simp; exact (IntWalk.i64_left _).trans hwk)) ?_
          simp only [Act.put, List.setIfInBounds_toArray, List.set_cons_succ, List.set_cons_zero]
          refine plan_look (v := .slice (some ⟨g0, off, none⟩) (k + 1) cap) rfl rfl (fun w0 hS => (by clear hS; go_simp; try rfl)) ?_
          simp only [Act.put, List.setIfInBounds_toArray, List.set_cons_succ, List.set_cons_zero]
          refine plan_do rfl ?_
          go_wp2_with fail
          refine (HSZ.out _ Me.out.1).mono ?_; rintro e wf ⟨rfl, af⟩
          have Mf := Lib.hid (And.intro (Me.out.1.trans af (fun _ h => h.elim)) (af.row Me.out.2 id))
          clear af
          dsimp only
          go_step
          refine wpList_nil ?_
          change _ ∧ _
          refine ⟨Mf.out.2, ?_⟩
          refine plan_do rfl ?_
          go_wp2_with fail
          refine (HPR.out _ (Md.out.2.1.trans Mf.out.1 (fun _ h => h.elim))).mono ?_; rintro e wg ⟨v2, out2, rfl, hpo2, hrow2, ag⟩
          have hl2 : out2.length = no := by
            have h1 := HPO.out.2.1.length_eq
            have h2 := (pairs_ents hpo2).length_eq
            rw [List.length_map] at h1 h2
            rw [HPO.out.2.2]
            omega
          obtain ⟨a2, c2, hv2⟩ := hrow2.form
          rw [hl2] at hv2
          subst hv2
          have Mg := Lib.hid (And.intro (Mf.out.1.trans ag (fun _ h => h.elim)) (ag.row Mf.out.2 id))
          clear hpo2 hrow2 ag hl2
          dsimp only
          go_step
          refine wpList_nil ?_
          change _ ∧ _
          refine ⟨Mg.out.2, ?_⟩
          iterate 1 refine plan_look rfl rfl (fun w0 hS => (by go_simp; try rfl)) ?_
          simp only [Act.put, List.setIfInBounds_toArray, List.set_cons_succ, List.set_cons_zero]
          iterate 2
            refine plan_look (v := .bool false) rfl rfl (fun w0 hS => (by clear hS; go_simp; try rfl)) ?_
            simp only [Act.put, List.setIfInBounds_toArray, List.set_cons_succ, List.set_cons_zero]
          refine plan_end ?_; simp only [List.drop_succ_cons, List.drop_zero]
          go_wp2
          refine NoPanic.normal ?_
          go_wp2_with fail
          go_roundg (gk - 1)
          case measure => have := HKG.out; omega
          case rel => exact ⟨k + 1, r, kept', σ', rfl, rfl, by simpa using hwk, by have := HKG.out; omega, (Md.out.1.adds Mg.out.1).more (by have := HC258.out; omega) (by omega)⟩
set_option maxRecDepth 100000 in
/-- What is not gone through. -/
theorem map_off (ao : Option Addr) (l : List Pr) (cap : Nat) (v : Value) (w : World) (hl : PairsAt w ao l) (hb : largeB l = true) :
    Calls Try.prog 9 #[.slice ao l.length cap, v] w fun e w' => e = .returned (.bool true) ∧ Adds w w' := by
  have hlg := fun w1 (a : Adds w w1) => large_ok cap (hl.keep a (fun _ h => h.elim))
  rw [hb] at hlg
  have HLG := Lib.hid hlg
  obtain ⟨len, hle⟩ : ∃ len, len = l.length := ⟨_, rfl⟩
  rw [← hle] at HLG ⊢
  clear hlg hb hle hl
  go_enter Try.func9, Try.ntmps9
  go_wp2_with fail
  refine (awake_ok _).mono ?_; rintro e w1 ⟨rfl, a1⟩
  have A1 := Lib.hid a1
  clear a1
  go_wp2_with fail
  refine (HLG.out _ A1.out).mono ?_; rintro e w2 ⟨rfl, rfl⟩
  go_wp2_with fail
  go_ret
  exact ⟨rfl, A1.out⟩
section
variable {H : Type} {enc : TypeId × Value → H} {W : World} {base : Nat}
set_option maxRecDepth 100000 in
/-- A row that came in has room for what it holds. -/
theorem opened_cap {v : Value} {d : DataW H} {p : List MemPlace} (hv : Value.okWide Try.prog W .any base 22 v)
    (h : DataW.Trod enc Try.prog W 0 (fun _ => true) true 22 v d p) : ∀ ao n cap, v = .slice ao n cap → n ≤ cap := by
  obtain ⟨ao, len, cap, rfl⟩ := Go.WideShapes.okWide_slice Try.underlying22 hv
  obtain ⟨m, hm⟩ := h
  intro ao' n' cap' e
  injection e with e1 e2 e3
  subst e1 e2 e3
  rcases Deep.open_slice Try.underlying22 hm with ⟨h0, _⟩ | ⟨a, l, c, mm, n, D, Pl, hcs, hb, hl, hc, hmm, hx, hi⟩
  · simp only [Value.cells, List.cons.injEq, Value.slice.injEq, and_true] at h0
    omega
  · simp only [Value.cells, List.cons.injEq, Value.slice.injEq, and_true] at hcs
    omega
end
end Go.Proofs.Ytpeebeebakjpdaa.Law9
