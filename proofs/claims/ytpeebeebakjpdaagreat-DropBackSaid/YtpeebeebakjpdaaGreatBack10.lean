/- DropBack: a put and a drop lead back: the walk. -/
import Derived.Test.YtpeebeebakjpdaaGreatMap10
import Derived.Test.YtpeebeebakjpdaaGreatDropA1
namespace Go.Proofs.YtpeebeebakjpdaaGreat.Law10
open Go Go.RowKit Go.Proofs.YtpeebeebakjpdaaGreat Go.Proofs.YtpeebeebakjpdaaGreat.ShaW Go.Proofs.YtpeebeebakjpdaaGreat.Path Go.Proofs.YtpeebeebakjpdaaGreat.Store Go.Proofs.YtpeebeebakjpdaaGreat.Law9
set_option maxHeartbeats 12800000
set_option linter.unusedVariables false

theorem Roots.dup0 {σ : SlabSt Nd} {L : Ents} {R : List (Int × Ents)} (h : Roots σ ((0, L) :: R)) : Roots σ ((0, L) :: (0, L) :: R) :=
  ⟨h.good, fun k hk => by rw [h.held k hk, roots_cons (0, L) ((0, L) :: R), if_neg hk]; rfl, fun p hp => (List.mem_cons.1 hp).elim (fun e => h.rep p (by rw [e]; exact List.mem_cons_self ..)) (h.rep p),
    fun p hp => (List.mem_cons.1 hp).elim (fun e => h.nodup p (by rw [e]; exact List.mem_cons_self ..)) (h.nodup p), fun p hp => (List.mem_cons.1 hp).elim (fun e => h.len p (by rw [e]; exact List.mem_cons_self ..)) (h.len p)⟩
theorem without_upd (L : Ents) (k v : List UInt8) : without (upd L k v) k = without L k := by
  unfold upd without
  rw [List.filter_cons, if_neg (by simp), List.filter_filter]
  exact List.filter_congr fun p _ => by simp
/-- In the midst of DropBack. -/
structure Bk (w0 w : World) (s B : Nat) (σ : SlabSt Nd) (R : List (Int × Ents)) (O : Array Value) (n : Nat) : Prop where
  own : Ow w0 w s σ (fun j => j = B)
  rts : Roots σ R
  room : σ.room = 10320
  live : Store.live σ ≤ 258 * n
  total : Store.total σ ≤ 1000 * n
  row : w.heap[B]? = some (.cells O 58 (0, 0))
theorem Bk.adds {w0 w w' : World} {s B n : Nat} {σ : SlabSt Nd} {R : List (Int × Ents)} {O : Array Value} (h : Bk w0 w s B σ R O n) (a : Adds w w') : Bk w0 w' s B σ R O n := ⟨h.own.adds a, h.rts, h.room, h.live, h.total, a.row h.row id⟩
set_option maxRecDepth 100000 in
theorem back_law (ao : Option Addr) (l : List Pr) (cap : Nat) (key : List UInt8) (hk : key.length = 32) (vv : Value) (bs : List UInt8) (w : World) (hl : PairsAt w ao l) (hb : Bytes w vv bs) (hv : bs ≠ [] → ∀ k, vv.ownBlock = some k → k < w.heap.size) :
    Calls Tryz.prog 7 #[.slice ao l.length cap, .agg (brow key), vv] w fun e w' => e = .returned (.bool true) ∧ Adds w w' := by
  obtain ⟨xo, xc, hxv, hxl, _⟩ := hb.form
  obtain ⟨K, hK⟩ : ∃ K, K = brow key := ⟨_, rfl⟩
  have hKs : K.size = 32 := by rw [hK, brow_size]; exact hk
  have hun := fun w1 (a : Adds w w1) => unlike_ok cap (hl.keep a (fun _ h => h.elim))
  have hfi := fun w1 (a : Adds w w1) (h1 : l.length ≤ 16) (h2 : ∀ x ∈ l, x.val.length ≤ 1024) => filled_ok cap (hl.keep a (fun _ h => h.elim)) h1 h2
  have hwi := fun w1 (a : Adds w w1) (h1 : l.length ≤ 16) => without_ok cap hk (hl.keep a (fun _ h => h.elim)) h1
  rw [← hK] at hwi ⊢
  have HL := Lib.hid hl
  obtain ⟨len, hle⟩ : ∃ len, len = l.length := ⟨_, rfl⟩
  obtain ⟨bn, hbn⟩ : ∃ bn, bn = bs.length := ⟨_, rfl⟩
  rw [← hle] at hun hfi hwi ⊢
  rw [hxv, ← hbn]
  have HLE := Lib.hid (And.intro hle hbn)
  have HUN := Lib.hid hun
  have HFI := Lib.hid hfi
  have HWI := Lib.hid hwi
  have HK := Lib.hid (And.intro hK (And.intro hKs hk))
  have HBY := Lib.hid (And.intro hb (And.intro hv hxv))
  obtain ⟨Z, hZ⟩ : ∃ Z, Z = brow (List.replicate 32 0) := ⟨_, rfl⟩
  have hzh := zeroH
  rw [← hZ] at hzh
  have hZs : Z.size = 32 := by rw [hZ]; rfl
  have HZ := Lib.hid (And.intro hzh hZs)
  obtain ⟨wb, hwb⟩ : ∃ wb, wb = w.alloc (.cells K 34) := ⟨_, rfl⟩
  have hab : Adds w wb := by rw [hwb]; exact (Ch.refl _ _).alloc _
  have hrb : wb.heap[w.heap.size]? = some (.cells K 34 (0, 0)) := by rw [hwb]; exact heap_alloc_new _ _
  obtain ⟨b0, hb0⟩ : ∃ b0, b0 = w.heap.size := ⟨_, rfl⟩
  rw [← hb0] at hrb
  have HWB := Lib.hid (And.intro hwb hb0)
  have HAB := Lib.hid (And.intro hab hrb)
  clear hl hb hv hun hfi hwi hle hbn hzh hZs hZ hK hKs hk hxv hxl hwb hab hrb
  go_enter Tryz.func7, Tryz.ntmps7
  go_wp2_with fail
  rw [← HWB.out.1]
  rw [← HWB.out.2]
  clear hb0 HWB
  refine (awake_ok _).mono ?_; rintro e w1 ⟨rfl, a1⟩
  have A1 := Lib.hid (And.intro (HAB.out.1.trans a1 (fun _ h => h.elim)) (a1.row HAB.out.2 id))
  clear a1 HAB
  go_wp2_with fail
  refine (HUN.out _ A1.out.1).mono ?_; rintro e w2 ⟨b, rfl, hb, a2⟩
  have A2 := Lib.hid (And.intro (A1.out.1.trans a2 (fun _ h => h.elim)) (a2.row A1.out.2 id))
  have HBU := Lib.hid hb
  clear a2 hb HUN A1
  by_cases hgo : b = true ∧ bn ≤ 1024
  · obtain ⟨rfl, hb1024⟩ := hgo
    obtain ⟨hl14, hfine⟩ := HBU.out.1 rfl
    have hd1 : decide ((1024 : Int) < (bn : Int)) = false := decide_eq_false (by omega)
    have hd1' : decide (1024 < bn) = false := decide_eq_false (by omega)
    have hfi := HFI.out _ A2.out.1 (by have := HLE.out.1; omega) hfine.2.1
    have HFI2 := Lib.hid hfi
    have HF := Lib.hid (And.intro hl14 (And.intro hfine hb1024))
    clear hl14 hfine hfi HFI HBU hb1024
    go_wp2_with fail
    refine HFI2.out.mono ?_; rintro e w3 ⟨s, σ, root, rfl, h3⟩
    have hDb : Db σ root (l.map Pr.ent) := h3.db.perm (entsOf_perm HF.out.2.1.2.2)
    have hRt := hDb.roots h3.sole
    have hlt : decide ((withoutP l key).length < len) = decide (key ∈ keysOf (l.map Pr.ent)) := by
      rw [HLE.out.1]
      exact decide_eq_decide.2 ((withoutP_lt l key).trans (by unfold keysOf; rw [List.map_map]; exact Iff.rfl))
    have hwi := HWI.out _ (A2.out.1.trans h3.own.world (fun _ h => h.elim)) (by have := HLE.out.1; have := HF.out.1; omega)
    rw [hlt] at hwi
    obtain ⟨L, hL⟩ : ∃ L, L = l.map Pr.ent := ⟨_, rfl⟩
    rw [← hL] at hDb hRt hwi
    obtain ⟨tb, htb⟩ : ∃ tb, tb = decide (key ∈ keysOf L) := ⟨_, rfl⟩
    rw [← htb] at hwi
    obtain ⟨F3, hF3⟩ := h3.own.at
    have hdl := hF3.digest_length root
    rw [hDb.digest] at hdl
    have hoc := fun w' (a : Adds w3 w') => Occupied_ok (hF3.adds a)
    have hdg := fun w' (a : Adds w3 w') => Digest_ok (hF3.adds a) root
    rw [hDb.digest] at hdg
    rw [hDb.good.used, hDb.live h3.sole] at hoc
    obtain ⟨us, hus⟩ : ∃ us, us = (tree 256 L).nodes := ⟨_, rfl⟩
    rw [← hus] at hoc
    obtain ⟨hb, hhb⟩ : ∃ hb, hb = (tree 256 L).dig := ⟨_, rfl⟩
    rw [← hhb] at hdl hdg
    obtain ⟨O, hO⟩ : ∃ O, O = brow hb := ⟨_, rfl⟩
    have hos : O.size = 32 := by rw [hO, brow_size]; exact hdl
    have ho1 := brow_one hb
    have hneq := neq_keys 58 Tryz.underlying58 hb hb hdl hdl
    have heql := eql_keys 58 Tryz.underlying58 hb hb hdl hdl
    rw [← hO] at ho1 hdg hneq heql
    simp only [decide_true, Bool.not_true] at hneq heql
    have HS3 := Lib.hid (And.intro h3.own (And.intro h3.room (And.intro h3.live h3.total)))
    have HRT := Lib.hid (And.intro hRt (And.intro hus (And.intro hhb (And.intro hO htb))))
    have HDB := Lib.hid hDb
    have HOC := Lib.hid hoc
    have HDG := Lib.hid hdg
    have HOO := Lib.hid (And.intro hos ho1)
    have HEQ := Lib.hid (And.intro hneq heql)
    have HWI2 := Lib.hid hwi
    have A3 := Lib.hid (h3.own.world.row A2.out.2 id)
    have hus1 : us ≤ 65536 := by rw [hus]; exact nodes_small hDb h3.sole hF3
    have HU1 := Lib.hid hus1
    clear h3 hDb hRt hlt hwi hL htb hF3 hdl hoc hdg hus hhb hO hos ho1 hneq heql HWI HFI2 hd1 hd1' hus1
    go_wp2_with (first
      | fail
      | ((with_reducible show wpList _ _ _ (⟨_, .load 34 _, _, _, _, _⟩ :: _) _ _); refine wpList_load_part rfl 34 _ rfl b0 0 rfl A3.out Tryz.underlying34 rfl sizeP (by rw [HK.out.2.1]; omega) K (by have := HK.out.2.1; simp [← this]) ?_))
    refine HWI2.out.mono ?_; rintro e w4 ⟨v, rfl, hr4, a4⟩
    obtain ⟨vo, vc, rfl⟩ := hr4.form
    have A4 := Lib.hid a4
    clear hr4 a4 HWI2
    go_wp2_with fail
    refine (HOC.out _ A4.out).mono ?_; rintro e wx ⟨rfl, rfl⟩
    go_wp2_with fail
    refine (HDG.out _ A4.out).mono ?_; rintro e w5 ⟨rfl, a5⟩
    have A5 := Lib.hid (A4.out.trans a5 (fun _ h => h.elim))
    clear a5 A4 HOC HDG
    go_upto_region 9 with (first
      | fail
      | ((with_reducible show wpList _ _ _ (⟨_, .alloc 58, _, _, _, _⟩ :: _) _ _); refine wpList_alloc_is rfl 58 rfl (.agg Z) HZ.out.1 ?_; dsimp only [Value.cells]; try simp only [World.size_alloc])
      | ((with_reducible show wpList _ _ _ (⟨_, .store 58 _ _, _, _, _, _⟩ :: _) _ _); refine wpList_store_part rfl 58 _ _ rfl w5.heap.size 0 O rfl rfl (heap_alloc_new _ _) (by rw [sizeH, HOO.out.1]) (by rw [HOO.out.1, HZ.out.2]; omega) HOO.out.2 O (by rw [splice_all _ _ (by rw [Array.length_toList, Array.length_toList, HOO.out.1, HZ.out.2])]) ?_))
    obtain ⟨w9, hw9⟩ : ∃ w9, w9 = (w5.alloc (.cells Z 58)).setRow w5.heap.size O := ⟨_, rfl⟩
    rw [← hw9]
    obtain ⟨B, hB⟩ : ∃ B, B = w5.heap.size := ⟨_, rfl⟩
    rw [← hB] at hw9 ⊢
    have r9 : w9.heap[B]? = some (.cells O 58 (0, 0)) := by rw [hw9, hB]; exact row_setRow_same (heap_alloc_new _ _) _
    have a59 : Adds w5 w9 := by rw [hw9]; exact ((Ch.refl _ _).alloc _).setRow (.inr (by omega)) _
    have o9 : Ow w2 w9 s σ (fun j => j = B) := (HS3.out.1.adds A5.out).more a59 (fun k hk => .inr ⟨by omega, by rw [hk]; exact row_lt r9⟩)
    have B9 := Lib.hid (show Bk w2 w9 s B σ [(root, L)] O 14 from ⟨o9, HRT.out.1, HS3.out.2.1, by have := HS3.out.2.2.1; have := HF.out.1; omega, by have := HS3.out.2.2.2; have := HF.out.1; omega, r9⟩)
    have hrb : 0 ≤ root := by
      rcases HDB.out.held with h | h
      · omega
      · obtain ⟨x, hx, _⟩ := held_there h
        obtain ⟨m, rfl, _⟩ := SlabSt.get?_some hx
        omega
    have HRB := Lib.hid hrb
    clear hw9 hB r9 a59 o9 hrb A5 HS3
    simp only [Act.put]
    go_cut [56] (fun s56 wx => s56 = .bool false ∧ ∃ σ1, Bk w2 wx s B σ1 [(root, L), (root, L)] O 15)
    case first =>
      by_cases h0 : root = 0
      · subst h0
        go_wp2
        go_meet
        case rel => exact ⟨rfl, σ, B9.out.own, Roots.dup0 B9.out.rts, B9.out.room, by have := B9.out.live; omega, by have := B9.out.total; omega, B9.out.row⟩
      · have hpos : decide (0 < root) = true := decide_eq_true (by have := HRB.out; omega)
        obtain ⟨q1, q2, q3, q4, q5⟩ := B9.out.rts.hold h0 (by have := B9.out.total; omega)
        have hho := B9.out.own.hold root
        rw [q1] at hho
        have HHO := Lib.hid hho
        have HQ := Lib.hid (And.intro q2 (And.intro q3 (And.intro q4 q5)))
        obtain ⟨σ2, hσ2⟩ : ∃ τ, τ = (holdS σ root).2 := ⟨_, rfl⟩
        rw [← hσ2] at HQ HHO
        clear h0 q1 q2 q3 q4 q5 hho hσ2
        go_wp2_with fail
        refine HHO.out.mono ?_; rintro e w6 ⟨rfl, o6, b6⟩
        have B6 := Lib.hid (show Bk w2 w6 s B σ2 [(root, L), (root, L)] O 15 from ⟨o6, HQ.out.1, HQ.out.2.2.2.trans B9.out.room, by rw [HQ.out.2.1]; have := B9.out.live; omega, by rw [HQ.out.2.2.1]; have := B9.out.total; omega, b6.row B9.out.row rfl⟩)
        clear o6 b6 HHO HQ
        go_wp2_with fail
        go_meet
        case rel => exact ⟨rfl, σ2, B6.out⟩
    case rest =>
      obtain ⟨rfl, σ1, hB1⟩ := hcut
      have hrow1 := hB1.own.world.row A2.out.2 id
      have hby := HBY.out.1.keep (A2.out.1.trans hB1.own.world (fun _ h => h.elim)) (fun _ _ h => h.elim)
      have hbv : bs ≠ [] → ∀ k, vv.ownBlock = some k → k < wc.heap.size := fun h k hk => Nat.lt_of_lt_of_le (HBY.out.2.1 h k hk) (A2.out.1.trans hB1.own.world (fun _ h => h.elim)).size
      have hpu := Put_roots hB1.own hB1.rts HK.out.2.2 hby hbv (by have := HLE.out.2; have := HF.out.2.2; omega) (by have := hB1.live; rw [hB1.room]; omega) (by have := hB1.total; omega)
      rw [← HK.out.1, HBY.out.2.2, ← HLE.out.2] at hpu
      have HPU := Lib.hid hpu
      have HB1 := Lib.hid (And.intro hB1 hrow1)
      clear hB1 hrow1 hby hbv hpu B9
      go_wp2_with (first
        | fail
        | ((with_reducible show wpList _ _ _ (⟨_, .load 34 _, _, _, _, _⟩ :: _) _ _); refine wpList_load_part rfl 34 _ rfl b0 0 rfl HB1.out.2 Tryz.underlying34 rfl sizeP (by rw [HK.out.2.1]; omega) K (by have := HK.out.2.1; simp [← this]) ?_))
      refine HPU.out.mono ?_; rintro e w10 ⟨r, σ2, rfl, o2, b2, W2, R2, hr0, _⟩
      have hB2 : Bk w2 w10 s B σ2 [(r, upd L key bs), (root, L)] O 16 := ⟨o2, R2, W2.room.trans HB1.out.1.room, by have := W2.live; have := HB1.out.1.live; omega, by have := W2.total; have := HB1.out.1.total; omega, b2.row HB1.out.1.row rfl⟩
      have hrow2 := o2.world.row A2.out.2 id
      have hdr := Drop_roots hB2.own hB2.rts HK.out.2.2 (by have := hB2.live; rw [hB2.room]; omega) (by have := hB2.total; omega)
      rw [← HK.out.1, without_upd] at hdr
      have HDR := Lib.hid hdr
      have HB2 := Lib.hid (And.intro hB2 hrow2)
      clear o2 b2 W2 R2 hr0 hB2 hrow2 hdr HB1 HPU
      go_wp2_with (first
        | fail
        | ((with_reducible show wpList _ _ _ (⟨_, .load 34 _, _, _, _, _⟩ :: _) _ _); refine wpList_load_part rfl 34 _ rfl b0 0 rfl HB2.out.2 Tryz.underlying34 rfl sizeP (by rw [HK.out.2.1]; omega) K (by have := HK.out.2.1; simp [← this]) ?_))
      refine HDR.out.mono ?_; rintro e w11 ⟨q, σ3, gone, rfl, o3, b3, W3, R3, hg3, _⟩
      obtain rfl : gone = true := hg3.2 (List.mem_cons_self ..)
      have hB3 : Bk w2 w11 s B σ3 [(q, without L key), (root, L)] O 17 := ⟨o3, R3, W3.room.trans HB2.out.1.room, by have := W3.live; have := HB2.out.1.live; omega, by have := W3.total; have := HB2.out.1.total; omega, b3.row HB2.out.1.row rfl⟩
      obtain ⟨F3, hF3⟩ := o3.at
      have hdg := fun w' (a : Adds w11 w') => Digest_ok (hF3.adds a) root
      have hdd : digestOf σ3 root = hb := by rw [HRT.out.2.2.1]; exact (R3.db (p := (root, L)) (by simp)).digest
      rw [hdd, ← HRT.out.2.2.2.1] at hdg
      have HDG := Lib.hid hdg
      have HB3 := Lib.hid hB3
      clear o3 b3 W3 R3 hg3 hB3 hF3 hdg hdd HB2 HDR
      go_wp2
      have hneq := HEQ.out.1
      refine wp_region_plan (fun w0 => w0.heap[B]? = some (.cells O 58 (0, 0))) 13 [(0, false), (1, false), (2, false), (3, false), (4, false), (5, false), (6, false), (7, false), (8, false), (10, false), (9, true), (11, false), (12, false)] (by kernel_rfl) (by kernel_rfl) ?_ ?_
      · exact row_drew HB3.out.row
      iterate 1 refine plan_look rfl rfl (fun w0 hS => (by go_simp; try rfl)) ?_
      simp only [Act.put, List.setIfInBounds_toArray, List.set_cons_succ, List.set_cons_zero]
      iterate 2
        refine plan_look (v := .bool false) rfl rfl (fun w0 hS => (by clear hS; go_simp; try rfl)) ?_
        simp only [Act.put, List.setIfInBounds_toArray, List.set_cons_succ, List.set_cons_zero]
      iterate 1 refine plan_look rfl rfl (fun w0 hS => (by go_simp; try rfl)) ?_
      simp only [Act.put, List.setIfInBounds_toArray, List.set_cons_succ, List.set_cons_zero]
      iterate 3
        refine plan_look (v := .bool false) rfl rfl (fun w0 hS => (by clear hS; go_simp; try rfl)) ?_
        simp only [Act.put, List.setIfInBounds_toArray, List.set_cons_succ, List.set_cons_zero]
      iterate 2
        iterate 1 refine plan_look rfl rfl (fun w0 hS => (by go_simp; try rfl)) ?_
        simp only [Act.put, List.setIfInBounds_toArray, List.set_cons_succ, List.set_cons_zero]
      refine Law9.plan_gload_part (cur := O) (t := 58) (fr := (0, 0)) rfl rfl 58 _ rfl B 0 32 rfl (fun w0 hS => hS) Tryz.underlying58 rfl sizeH (by rw [HOO.out.1]; omega) O (by have := HOO.out.1; simp [← this]) ?_
      simp only [Act.put, List.setIfInBounds_toArray, List.set_cons_succ, List.set_cons_zero]
      refine plan_do rfl ?_
      go_wp2_with fail
      refine (HDG.out _ (Ch.refl _ _).drew).mono ?_; rintro e wa ⟨rfl, aa⟩
      have Ba := Lib.hid (HB3.out.adds ((Ch.refl (fun _ => False) w11).drew.trans aa (fun _ h => h.elim)))
      clear aa
      dsimp only
      go_step
      refine wpList_nil ?_
      change _ ∧ _
      refine ⟨Ba.out.row, ?_⟩
      iterate 2
        refine plan_look (v := .bool false) rfl rfl (fun w0 hS => (by clear hS; go_simp; try rfl)) ?_
        simp only [Act.put, List.setIfInBounds_toArray, List.set_cons_succ, List.set_cons_zero]
      refine plan_end ?_; simp only [List.drop_succ_cons, List.drop_zero]
      go_wp2
      refine NoPanic.normal ?_
      clear hneq HDG HB3
      cases tb with
      | true =>
        have HW := Lib.hid (A2.out.1.trans Ba.out.own.world (fun _ h => h.elim))
        go_wp2_with fail
        go_ret
        exact ⟨rfl, HW.out⟩
      | false =>
        have hno : key ∉ keysOf L := of_decide_eq_false HRT.out.2.2.2.2.symm
        have hBa := Ba.out
        have hR := hBa.rts
        rw [without_none hno] at hR
        obtain ⟨Fa, hFa⟩ := hBa.own.at
        have hdg := fun w' (a : Adds wa w') => Digest_ok (hFa.adds a) q
        have hdd : digestOf σ3 q = hb := by rw [HRT.out.2.2.1]; exact (hR.db (p := (q, L)) (by simp)).digest
        rw [hdd, ← HRT.out.2.2.2.1] at hdg
        have HDG := Lib.hid hdg
        have HRR := Lib.hid hR
        clear hno hBa hR hFa hdg hdd
        go_wp2
        have hneq := HEQ.out.1
        refine wp_region_plan (fun w0 => w0.heap[B]? = some (.cells O 58 (0, 0))) 5 [(0, false), (1, false), (3, false), (2, true), (4, false)] (by kernel_rfl) (by kernel_rfl) ?_ ?_
        · exact row_drew Ba.out.row
        iterate 2
          iterate 1 refine plan_look rfl rfl (fun w0 hS => (by go_simp; try rfl)) ?_
          simp only [Act.put, List.setIfInBounds_toArray, List.set_cons_succ, List.set_cons_zero]
        refine Law9.plan_gload_part (cur := O) (t := 58) (fr := (0, 0)) rfl rfl 58 _ rfl B 0 32 rfl (fun w0 hS => hS) Tryz.underlying58 rfl sizeH (by rw [HOO.out.1]; omega) O (by have := HOO.out.1; simp [← this]) ?_
        simp only [Act.put, List.setIfInBounds_toArray, List.set_cons_succ, List.set_cons_zero]
        refine plan_do rfl ?_
        go_wp2_with fail
        refine (HDG.out _ (Ch.refl _ _).drew).mono ?_; rintro e wd ⟨rfl, ad⟩
        have Bd := Lib.hid (Ba.out.adds ((Ch.refl (fun _ => False) wa).drew.trans ad (fun _ h => h.elim)))
        clear ad
        dsimp only
        go_step
        refine wpList_nil ?_
        change _ ∧ _
        refine ⟨Bd.out.row, ?_⟩
        refine plan_look (v := .bool false) rfl rfl (fun w0 hS => (by clear hS; go_simp; try rfl)) ?_
        simp only [Act.put, List.setIfInBounds_toArray, List.set_cons_succ, List.set_cons_zero]
        refine plan_end ?_; simp only [List.drop_succ_cons, List.drop_zero]
        go_wp2
        refine NoPanic.normal ?_
        clear hneq HDG Ba
        go_upto_if 96 with fail
        go_cut [] (fun wx => ∃ σ4, Bk w2 wx s B σ4 [(q, L)] O 17)
        case first =>
          by_cases h0 : root = 0
          · have hR := HRR.out.perm (List.Perm.swap (root, L) (q, L) [])
            rw [h0] at hR
            have HR0 := Lib.hid hR.less
            clear hR
            subst h0
            go_wp2
            go_meet
            case rel => exact ⟨σ3, Bd.out.own, HR0.out, Bd.out.room, Bd.out.live, Bd.out.total, Bd.out.row⟩
          · have hpos : 0 < root := by have := HRB.out; omega
            obtain ⟨q1, q2, q3, q4, q5⟩ := (HRR.out.perm (List.Perm.swap (root, L) (q, L) [])).drop h0
            have hho := Bd.out.own.drop root
            have HHO := Lib.hid hho
            have HQ := Lib.hid (And.intro q2 (And.intro q3 (And.intro q4 q5)))
            obtain ⟨σ5, hσ5⟩ : ∃ τ, τ = (dropS σ3 root).2.2 := ⟨_, rfl⟩
            rw [← hσ5] at HQ HHO
            clear h0 q1 q2 q3 q4 q5 hho hσ5
            go_wp2_with fail
            refine HHO.out.mono ?_; rintro e w6 ⟨rfl, o6, b6⟩
            have B6 := Lib.hid (show Bk w2 w6 s B σ5 [(q, L)] O 17 from ⟨o6, HQ.out.1, HQ.out.2.2.2.trans Bd.out.room, Nat.le_trans HQ.out.2.1 Bd.out.live, Nat.le_trans HQ.out.2.2.1 Bd.out.total, b6.row Bd.out.row rfl⟩)
            clear o6 b6 HHO HQ
            go_wp2_with fail
            go_meet
            case rel => exact ⟨σ5, B6.out⟩
        case rest =>
          obtain ⟨σ4, hB4⟩ := hcut
          obtain ⟨F4, hF4⟩ := hB4.own.at
          have hdg := fun w' (a : Adds wc w') => Digest_ok (hF4.adds a) q
          have hoc := fun w' (a : Adds wc w') => Occupied_ok (hF4.adds a)
          have hdd : digestOf σ4 q = hb := by rw [HRT.out.2.2.1]; exact (hB4.rts.db (p := (q, L)) (by simp)).digest
          have huu : σ4.used = us := by rw [hB4.rts.good.used, hB4.rts.live (p := (q, L)) (by simp) (by simp), HRT.out.2.1]
          rw [hdd, ← HRT.out.2.2.2.1] at hdg
          rw [huu] at hoc
          have HDG := Lib.hid hdg
          have HOC := Lib.hid hoc
          have HB4 := Lib.hid hB4
          clear hB4 hF4 hdg hoc hdd huu Bd HRR
          have heql := HEQ.out.2
          go_wp2
          refine wp_region_plan (fun w0 => w0.heap[B]? = some (.cells O 58 (0, 0))) 15 [(0, false), (1, false), (2, false), (4, false), (3, true), (5, false), (6, false), (7, false), (8, false), (9, false), (11, false), (10, true), (12, false), (13, false), (14, false)] (by kernel_rfl) (by kernel_rfl) ?_ ?_
          · exact row_drew HB4.out.row
          iterate 2
            refine plan_look (v := .bool true) rfl rfl (fun w0 hS => (by clear hS; go_simp; try rfl)) ?_
            simp only [Act.put, List.setIfInBounds_toArray, List.set_cons_succ, List.set_cons_zero]
          iterate 2
            iterate 1 refine plan_look rfl rfl (fun w0 hS => (by go_simp; try rfl)) ?_
            simp only [Act.put, List.setIfInBounds_toArray, List.set_cons_succ, List.set_cons_zero]
          refine plan_do rfl ?_
          go_wp2_with fail
          refine (HOC.out _ (Ch.refl _ _).drew).mono ?_; rintro e wx ⟨rfl, rfl⟩
          dsimp only
          go_step
          refine wpList_nil ?_
          change _ ∧ _
          refine ⟨row_drew HB4.out.row, ?_⟩
          iterate 3
            refine plan_look (v := .bool true) rfl rfl (fun w0 hS => (by clear hS; go_simp; try rfl)) ?_
            simp only [Act.put, List.setIfInBounds_toArray, List.set_cons_succ, List.set_cons_zero]
          iterate 2
            iterate 1 refine plan_look rfl rfl (fun w0 hS => (by go_simp; try rfl)) ?_
            simp only [Act.put, List.setIfInBounds_toArray, List.set_cons_succ, List.set_cons_zero]
          refine Law9.plan_gload_part (cur := O) (t := 58) (fr := (0, 0)) rfl rfl 58 _ rfl B 0 32 rfl (fun w0 hS => hS) Tryz.underlying58 rfl sizeH (by rw [HOO.out.1]; omega) O (by have := HOO.out.1; simp [← this]) ?_
          simp only [Act.put, List.setIfInBounds_toArray, List.set_cons_succ, List.set_cons_zero]
          refine plan_do rfl ?_
          go_wp2_with fail
          refine (HDG.out _ (Ch.refl _ _).drew).mono ?_; rintro e wf ⟨rfl, af⟩
          have Bf := Lib.hid (HB4.out.adds ((Ch.refl (fun _ => False) wc).drew.trans af (fun _ h => h.elim)))
          clear af
          dsimp only
          go_step
          refine wpList_nil ?_
          change _ ∧ _
          refine ⟨Bf.out.row, ?_⟩
          iterate 2
            refine plan_look (v := .bool true) rfl rfl (fun w0 hS => (by clear hS; go_simp; try rfl)) ?_
            simp only [Act.put, List.setIfInBounds_toArray, List.set_cons_succ, List.set_cons_zero]
          iterate 1 refine plan_look rfl rfl (fun w0 hS => (by go_simp; try rfl)) ?_
          simp only [Act.put, List.setIfInBounds_toArray, List.set_cons_succ, List.set_cons_zero]
          refine plan_end ?_; simp only [List.drop_succ_cons, List.drop_zero]
          go_wp2
          refine NoPanic.normal ?_
          have HW := Lib.hid (A2.out.1.trans Bf.out.own.world (fun _ h => h.elim))
          go_wp2_with fail
          go_ret
          exact ⟨rfl, HW.out⟩
  · by_cases hb : b = true
    · subst hb
      have hd1 : decide ((1024 : Int) < (bn : Int)) = true := decide_eq_true (by have : ¬ bn ≤ 1024 := fun h => hgo ⟨rfl, h⟩; omega)
      have hd1' : decide (1024 < bn) = true := decide_eq_true (by have : ¬ bn ≤ 1024 := fun h => hgo ⟨rfl, h⟩; omega)
      clear hgo HFI
      go_wp2_with fail
      go_ret
      exact ⟨rfl, A2.out.1⟩
    · obtain rfl : b = false := by simpa using hb
      clear hb hgo HFI
      go_wp2_with fail
      go_ret
      exact ⟨rfl, A2.out.1⟩
end Go.Proofs.YtpeebeebakjpdaaGreat.Law10
