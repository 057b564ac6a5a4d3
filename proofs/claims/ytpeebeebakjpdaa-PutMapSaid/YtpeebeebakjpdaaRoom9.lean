/- PutRoom: refused just where there is no room: the walk. -/
import Derived.Test.YtpeebeebakjpdaaLarge9
namespace Go.Proofs.Ytpeebeebakjpdaa.Law9
open Go Go.RowKit Go.Proofs.Ytpeebeebakjpdaa Go.Proofs.Ytpeebeebakjpdaa.ShaW Go.Proofs.Ytpeebeebakjpdaa.Path Go.Proofs.Ytpeebeebakjpdaa.Store
set_option maxHeartbeats 3200000
set_option linter.unusedVariables false

set_option maxRecDepth 100000 in
theorem room_law (n : Nat) (hn1 : 1 ≤ n) (hn2 : n ≤ 5000) (ao : Option Addr) (l : List Pr) (cap : Nat) (w : World) (hl : PairsAt w ao l) (hb : largeB l = false) :
    Calls Try.prog 4 #[.int .i64 n, .slice ao l.length cap] w fun e w' => e = .returned (.bool true) ∧ Adds w w' := by
  obtain ⟨hlen, hval⟩ := largeB_no hb
  have hlg := fun w1 (a : Adds w w1) => large_ok cap (hl.keep a (fun _ h => h.elim))
  rw [hb] at hlg
  have HL := Lib.hid hl
  have HLG := Lib.hid hlg
  have HV := Lib.hid hval
  have e1 : decide ((n : Int) < 1) = false := decide_eq_false (by omega)
  have e2 : decide ((5000 : Int) < (n : Int)) = false := decide_eq_false (by omega)
  have e1' : decide (n < 1) = false := decide_eq_false (by omega)
  have e2' : decide (5000 < n) = false := decide_eq_false (by omega)
  obtain ⟨len, hle⟩ : ∃ len, len = l.length := ⟨_, rfl⟩
  rw [← hle] at hlg hlen HLG ⊢
  have HLE := Lib.hid hle
  clear hl hb hlg hval hle
  go_enter Try.func4, Try.ntmps4
  go_wp2_with fail
  refine (awake_ok _).mono ?_; rintro e w1 ⟨rfl, a1⟩
  have A1 := Lib.hid a1
  clear a1
  go_wp2_with fail
  refine (HLG.out _ A1.out).mono ?_; rintro e w2 ⟨rfl, rfl⟩
  go_wp2_with fail
  refine (New_own n w1 hn1 (by omega)).mono ?_; rintro e w3 ⟨s, rfl, h3⟩
  have hs3 : St9 w1 w3 s ⟨n, [], []⟩ 0 [] n 0 := ⟨h3.ow.less (fun _ h => h.elim), Db.new n hn1 (by omega), rfl, Nat.le_refl _⟩
  have HS3 := Lib.hid hs3
  clear h3 hs3
  go_wp2_with fail
  go_loopg [8, 9, 10, 11, 12, 13, 14] len (fun g s8 s9 s10 s11 s12 s13 s14 wr => ∃ (k : Nat) (root : Int) (σ : SlabSt Nd) (L : Ents), s8 = .int .i64 root ∧ s9 = .int .i64 k ∧ k + g = len ∧ St9 w1 wr s σ root L n (600 * k))
  case atStart => exact ⟨0, 0, _, _, rfl, rfl, by omega, HS3.out⟩
  case round =>
    obtain ⟨k, root, σ, L, rfl, rfl, hk, hst⟩ := hrel
    have HS := Lib.hid hst
    have HKG := Lib.hid hk
    clear HS3
    by_cases hkl : k = len
    · have hx1 : decide ((k : Int) < (len : Int)) = false := decide_eq_false (by omega)
      have hx1' : decide (k < len) = false := decide_eq_false (by omega)
      clear hk hst hkl
      go_wp2
      go_ret
      exact ⟨rfl, A1.out.trans HS.out.world (fun _ h => h.elim)⟩
    · have hx1 : decide ((k : Int) < (len : Int)) = true := decide_eq_true (by omega)
      have hx1' : decide (k < len) = true := decide_eq_true (by omega)
      have hkl' : k < l.length := by have := HLE.out; omega
      have hklen : (k : Int) < (len : Int) := by omega
      have hklen' : k < len := by omega
      obtain ⟨x, hx⟩ : ∃ x, l[k]? = some x := ⟨_, List.getElem?_eq_getElem hkl'⟩
      obtain ⟨g0, off, rfl, hp⟩ := HL.out.2 k x hx
      have hg := HL.out.1 x (List.mem_of_getElem? hx)
      obtain ⟨F, hF⟩ := hst.own.at
      have hoc := fun w1 (a : Adds wr w1) => Occupied_ok (hF.adds a)
      have hdg := fun w1 (a : Adds wr w1) => Digest_ok (hF.adds a) root
      have hfi := fun w1 (a : Adds wr w1) => Fits_ok (hF.adds a) 1
      have hdl := hF.digest_length root
      obtain ⟨us, hus⟩ : ∃ x, x = σ.used := ⟨_, rfl⟩
      obtain ⟨D, hD⟩ : ∃ x, x = brow (digestOf σ root) := ⟨_, rfl⟩
      have hDs : D.size = 32 := by rw [hD, brow_size, hdl]
      have hDo : ∀ v ∈ D.toList, v.oneCell' = true := by rw [hD]; exact brow_one _
      have heq := neq_keys 40 Try.underlying40 (digestOf σ root) (digestOf σ root) hdl hdl
      rw [← hD] at hdg heq
      simp only [decide_true, Bool.not_true] at heq
      rw [← hus] at hoc
      have hus5 : us ≤ 5000 := by have := hst.used; omega
      have hw : IntKind.i64.wrap ((us : Int) + 258) = (us : Int) + 258 := by rw [IntKind.wrap]; simp [IntKind.signed, IntKind.bits]; omega
      have HOC := Lib.hid hoc
      have HDG := Lib.hid hdg
      have HFI := Lib.hid hfi
      have HD := Lib.hid (And.intro hDs hDo)
      have HEQ := Lib.hid heq
      have HUS := Lib.hid hus
      have HX := Lib.hid (And.intro hp hg)
      have HXM := Lib.hid (List.mem_of_getElem? hx)
      clear hoc hdg hfi hDs hDo heq hus hp hg hF hdl hx hst hk hkl hD
      go_wp2_with fail
      refine (HOC.out _ (Ch.refl _ _)).mono ?_; rintro e w4 ⟨rfl, rfl⟩
      go_wp2_with fail
      refine (HDG.out _ (Ch.refl _ _)).mono ?_; rintro e w5 ⟨rfl, a5⟩
      have A5 := Lib.hid a5
      clear a5
      obtain ⟨Z, hZ⟩ : ∃ Z, Z = brow (List.replicate 32 0) := ⟨_, rfl⟩
      have hzh := zeroH
      rw [← hZ] at hzh
      have hZs : Z.size = 32 := by rw [hZ]; rfl
      have HZ := Lib.hid (And.intro hzh hZs)
      clear hZ hzh hZs
      obtain ⟨hp, hg⟩ := HX.out
      have hkey := Pr.at_key hg.key
      have hvv := Pr.at_val hg.key
      have hsz := Pr.size hg.key
      obtain ⟨cur, ty, fr, c1, c2, c3⟩ := hp
      have ck := extract_part c3 (by rw [hsz]; omega) hkey
      have cv := extract_get c3 hvv
      rw [hsz] at c2
      obtain ⟨K, hK⟩ : ∃ K, K = brow x.key := ⟨_, rfl⟩
      rw [← hK] at ck
      have HC := Lib.hid (And.intro c1 (And.intro c2 (And.intro ck cv)))
      have HK := Lib.hid hK
      obtain ⟨xo, xc, hxv, _, _⟩ := hg.val.form
      clear hg hkey hvv hsz c1 c2 c3 ck cv hK
      go_upto_region 12 with (first
        | ((with_reducible show wpList _ _ _ (⟨_, .alloc 40, _, _, _, _⟩ :: _) _ _); refine wpList_alloc_is rfl 40 rfl (.agg Z) HZ.out.1 ?_; dsimp only [Value.cells]; try simp only [World.size_alloc])
        | ((with_reducible show wpList _ _ _ (⟨_, .store 40 _ _, _, _, _, _⟩ :: _) _ _); refine wpList_store_part rfl 40 _ _ rfl w5.heap.size 0 D rfl rfl (heap_alloc_new _ _) (by rw [sizeH, HD.out.1]) (by rw [HD.out.1, HZ.out.2]; omega) HD.out.2 D (by rw [splice_all _ _ (by rw [Array.length_toList, Array.length_toList, HD.out.1, HZ.out.2])]) ?_))
      obtain ⟨w6, hw6⟩ : ∃ w6, w6 = (w5.alloc (.cells Z 40)).setRow w5.heap.size D := ⟨_, rfl⟩
      rw [← hw6]
      have r6 : w6.heap[w5.heap.size]? = some (.cells D 40 (0, 0)) := by rw [hw6]; exact row_setRow_same (heap_alloc_new _ _) _
      have a56 : Adds w5 w6 := by rw [hw6]; exact ((Ch.refl _ _).alloc _).setRow (.inr (Nat.le_refl _)) _
      have a6 : Adds wr w6 := A5.out.trans a56 (fun _ h => h.elim)
      have aw : Adds w w6 := (A1.out.trans HS.out.world (fun _ h => h.elim)).trans a6 (fun _ h => h.elim)
      have H6 := Lib.hid (And.intro r6 (And.intro a6 aw))
      clear hw6 r6 a6 aw A5 a56
      by_cases hfit : fitsJ σ 1 = true
      · have hfw := HFI.out w6 H6.out.2.1
        rw [hfit] at hfw
        have HFW := Lib.hid hfw
        rw [fitsJ_one] at hfit
        have hf := of_decide_eq_true hfit
        rw [← HUS.out, HS.out.room] at hf
        have hx3 : decide ((n : Int) < (us : Int) + 258) = false := decide_eq_false (by omega)
        have HF := Lib.hid hf
        clear hfw hfit hf HFI
        go_wp2_with fail
        refine HFW.out.mono ?_; rintro e w7 ⟨rfl, rfl⟩
        go_wp2
        refine wp_region_plan (fun w0 => w0.heap[g0]? = some (.cells cur ty fr)) 18 [(0, false), (1, false), (2, false), (3, false), (4, false), (5, false), (6, false), (7, false), (8, false), (9, false), (10, false), (11, false), (12, true), (13, false), (14, false), (15, false), (16, false), (17, false)] (by kernel_rfl) (by kernel_rfl) ?_ ?_
        · exact H6.out.2.2.drew.row HC.out.1 id
        iterate 6
          iterate 1 refine plan_look rfl rfl (fun w0 hS => (by go_simp; try rfl)) ?_
          simp only [Act.put, List.setIfInBounds_toArray, List.set_cons_succ, List.set_cons_zero]
        refine plan_load_part (cur := cur) (t := ty) (fr := fr) rfl rfl 29 _ rfl g0 (off + k * 33) 32 rfl (fun w0 hS => hS) Try.underlying29 rfl sizeP (by have := HC.out.2.1; omega) K HC.out.2.2.1 ?_
        simp only [Act.put, List.setIfInBounds_toArray, List.set_cons_succ, List.set_cons_zero]
        iterate 4
          iterate 1 refine plan_look rfl rfl (fun w0 hS => (by go_simp; try rfl)) ?_
          simp only [Act.put, List.setIfInBounds_toArray, List.set_cons_succ, List.set_cons_zero]
        refine plan_look (v := .slice xo x.val.length xc) rfl rfl (fun w0 hS => (by have e0 := row_cell hS HC.out.2.2.2; rw [hxv] at e0; clear hS; go_simp; try rfl)) ?_
        simp only [Act.put, List.setIfInBounds_toArray, List.set_cons_succ, List.set_cons_zero]
        refine plan_do rfl ?_
        go_wp2_with fail
        have hg7 := HX.out.2.keep (H6.out.2.2.drew) (fun _ h => h.elim)
        have hb7 := hg7.val
        have hv7 := hg7.blk
        rw [hxv] at hb7 hv7
        have hP := Put_db (HS.out.own.adds H6.out.2.1.drew) HS.out.db hg7.key hb7 hv7 (HV.out x HXM.out) (by rw [← HS.out.db.good.used, ← HUS.out, HS.out.room]; exact HF.out) (by have := HS.out.total; omega)
        rw [← HK.out] at hP
        refine hP.mono ?_; rintro e w8 ⟨r, σ', rfl, o8, b8, W8, D8, _⟩
        have HR := Lib.hid (show St9 w1 w8 s σ' r (upd L x.key x.val) n (600 * (k + 1)) from ⟨o8, D8, W8.room.trans HS.out.room, by have := W8.total; have := HS.out.total; omega⟩)
        clear hP hg7 hb7 hv7 o8 b8 W8 D8
        dsimp only
        go_step
        refine wpList_nil ?_
        change _ ∧ _
        refine ⟨(A1.out.trans HR.out.world (fun _ h => h.elim)).row HC.out.1 id, ?_⟩
        iterate 5
          refine plan_look rfl rfl (fun w0 hS => (by clear hS; go_simp; try rfl)) ?_
          simp only [Act.put, List.setIfInBounds_toArray, List.set_cons_succ, List.set_cons_zero]
        refine plan_end ?_; simp only [List.drop_succ_cons, List.drop_zero]
        go_wp2
        refine NoPanic.normal ?_
        go_wp2_with fail
        go_roundg (gk - 1)
        case measure => have := HKG.out; omega
        case rel => exact ⟨k + 1, r, σ', _, rfl, by simp, by have := HKG.out; omega, HR.out⟩
      · have hfit : fitsJ σ 1 = false := by simpa using hfit
        have hfw := HFI.out w6 H6.out.2.1
        rw [hfit] at hfw
        have HFW := Lib.hid hfw
        have hfit2 := hfit
        rw [fitsJ_one] at hfit2
        have hf := of_decide_eq_false hfit2
        rw [← HUS.out, HS.out.room] at hf
        have hx3 : decide ((n : Int) < (us : Int) + 258) = true := decide_eq_true (by omega)
        have HF := Lib.hid hfit
        clear hfw hfit hfit2 hf HFI
        go_wp2_with fail
        refine HFW.out.mono ?_; rintro e w7 ⟨rfl, rfl⟩
        go_wp2
        refine wp_region_plan (fun w0 => w0.heap[g0]? = some (.cells cur ty fr)) 18 [(0, false), (1, false), (2, false), (3, false), (4, false), (5, false), (6, false), (7, false), (8, false), (9, false), (10, false), (11, false), (12, true), (13, false), (14, false), (15, false), (16, false), (17, false)] (by kernel_rfl) (by kernel_rfl) ?_ ?_
        · exact H6.out.2.2.drew.row HC.out.1 id
        iterate 6
          iterate 1 refine plan_look rfl rfl (fun w0 hS => (by go_simp; try rfl)) ?_
          simp only [Act.put, List.setIfInBounds_toArray, List.set_cons_succ, List.set_cons_zero]
        refine plan_load_part (cur := cur) (t := ty) (fr := fr) rfl rfl 29 _ rfl g0 (off + k * 33) 32 rfl (fun w0 hS => hS) Try.underlying29 rfl sizeP (by have := HC.out.2.1; omega) K HC.out.2.2.1 ?_
        simp only [Act.put, List.setIfInBounds_toArray, List.set_cons_succ, List.set_cons_zero]
        iterate 4
          iterate 1 refine plan_look rfl rfl (fun w0 hS => (by go_simp; try rfl)) ?_
          simp only [Act.put, List.setIfInBounds_toArray, List.set_cons_succ, List.set_cons_zero]
        refine plan_look (v := .slice xo x.val.length xc) rfl rfl (fun w0 hS => (by have e0 := row_cell hS HC.out.2.2.2; rw [hxv] at e0; clear hS; go_simp; try rfl)) ?_
        simp only [Act.put, List.setIfInBounds_toArray, List.set_cons_succ, List.set_cons_zero]
        refine plan_do rfl ?_
        go_wp2_with fail
        have hg7 := HX.out.2.keep (H6.out.2.2.drew) (fun _ h => h.elim)
        have hb7 := hg7.val
        have hv7 := hg7.blk
        rw [hxv] at hb7 hv7
        obtain ⟨F7, hF7⟩ := (HS.out.own.adds H6.out.2.1.drew).at
        have hP := Put_full hF7 root x.key hb7 (HV.out x HXM.out) HS.out.db.hand HF.out
        rw [← HK.out] at hP
        refine hP.mono ?_; rintro e w8 ⟨rfl, a8⟩
        have a68 : Adds w6 w8 := ((Ch.refl _ _).drew).trans a8 (fun _ h => h.elim)
        have H8 := Lib.hid (And.intro (H6.out.2.1.trans a68 (fun _ h => h.elim)) (And.intro (H6.out.2.2.trans a68 (fun _ h => h.elim)) (a68.row H6.out.1 id)))
        clear hP hg7 hb7 hv7 a8 a68 hF7
        dsimp only
        go_step
        refine wpList_nil ?_
        change _ ∧ _
        refine ⟨H8.out.2.1.row HC.out.1 id, ?_⟩
        iterate 5
          refine plan_look rfl rfl (fun w0 hS => (by clear hS; go_simp; try rfl)) ?_
          simp only [Act.put, List.setIfInBounds_toArray, List.set_cons_succ, List.set_cons_zero]
        refine plan_end ?_; simp only [List.drop_succ_cons, List.drop_zero]
        go_wp2
        refine NoPanic.normal ?_
        go_wp2_with fail
        refine wp_region_plan (fun w0 => w0.heap[w5.heap.size]? = some (.cells D 40 (0, 0))) 15 [(0, false), (1, false), (2, false), (3, false), (5, false), (4, true), (6, false), (7, false), (8, false), (9, false), (10, false), (12, false), (11, true), (13, false), (14, false)] (by kernel_rfl) (by kernel_rfl) ?_ ?_
        · exact row_drew H8.out.2.2
        iterate 5
          refine plan_look rfl rfl (fun w0 hS => (by clear hS; go_simp; try rfl)) ?_
          simp only [Act.put, List.setIfInBounds_toArray, List.set_cons_succ, List.set_cons_zero]
        refine plan_do rfl ?_
        go_wp2_with fail
        refine (HOC.out _ H8.out.1.drew).mono ?_; rintro e w9 ⟨rfl, rfl⟩
        dsimp only
        go_step
        refine wpList_nil ?_
        change _ ∧ _
        refine ⟨row_drew H8.out.2.2, ?_⟩
        refine plan_look (v := .bool false) rfl rfl (fun w0 hS => (by clear hS; go_simp; try simp)) ?_
        simp only [Act.put, List.setIfInBounds_toArray, List.set_cons_succ, List.set_cons_zero]
        refine plan_look (v := .bool false) rfl rfl (fun w0 hS => (by clear hS; go_simp; try simp)) ?_
        simp only [Act.put, List.setIfInBounds_toArray, List.set_cons_succ, List.set_cons_zero]
        iterate 3
          refine plan_look rfl rfl (fun w0 hS => (by clear hS; go_simp; try rfl)) ?_
          simp only [Act.put, List.setIfInBounds_toArray, List.set_cons_succ, List.set_cons_zero]
        refine plan_gload_part (cur := D) (t := 40) (fr := (0, 0)) rfl rfl 40 _ rfl w5.heap.size 0 32 rfl (fun w0 hS => hS) Try.underlying40 rfl sizeH (by rw [HD.out.1]; omega) D (by simp [← HD.out.1]) ?_
        simp only [Act.put, List.setIfInBounds_toArray, List.set_cons_succ, List.set_cons_zero]
        refine plan_do rfl ?_
        go_wp2_with fail
        refine (HDG.out _ H8.out.1.drew).mono ?_; rintro e w10 ⟨rfl, a10⟩
        have a8' : Adds w8 w10 := ((Ch.refl _ _).drew).trans a10 (fun _ h => h.elim)
        have H10 := Lib.hid (And.intro (H8.out.1.trans a8' (fun _ h => h.elim)) (a8'.row H8.out.2.2 id))
        clear a10 a8'
        dsimp only
        go_step
        refine wpList_nil ?_
        change _ ∧ _
        refine ⟨H10.out.2, ?_⟩
        refine plan_look (v := .bool false) rfl rfl (fun w0 hS => (by have hq := HEQ.out w0; rw [run_neq_struct] at hq; clear hS; go_simp)) ?_
        simp only [Act.put, List.setIfInBounds_toArray, List.set_cons_succ, List.set_cons_zero]
        refine plan_look (v := .bool false) rfl rfl (fun w0 hS => (by clear hS; go_simp; try rfl)) ?_
        simp only [Act.put, List.setIfInBounds_toArray, List.set_cons_succ, List.set_cons_zero]
        refine plan_end ?_; simp only [List.drop_succ_cons, List.drop_zero]
        go_wp2
        refine NoPanic.normal ?_
        go_wp2_with fail
        go_roundg (gk - 1)
        case measure => have := HKG.out; omega
        case rel => exact ⟨k + 1, root, σ, L, rfl, by simp, by have := HKG.out; omega, ⟨HS.out.own.adds H10.out.1, HS.out.db, HS.out.room, by have := HS.out.total; omega⟩⟩
set_option maxRecDepth 100000 in
/-- What is not gone through. -/
theorem room_off (room : Int) (ao : Option Addr) (l : List Pr) (cap : Nat) (w : World) (hl : PairsAt w ao l) (h : largeB l = true ∨ (largeB l = false ∧ (room < 1 ∨ (¬ room < 1 ∧ 5000 < room)))) :
    Calls Try.prog 4 #[.int .i64 room, .slice ao l.length cap] w fun e w' => e = .returned (.bool true) ∧ Adds w w' := by
  have hlg := fun w1 (a : Adds w w1) => large_ok cap (hl.keep a (fun _ h => h.elim))
  obtain ⟨lb, hlb⟩ : ∃ x, x = largeB l := ⟨_, rfl⟩
  rw [← hlb] at hlg h
  have HLG := Lib.hid hlg
  obtain ⟨len, hle⟩ : ∃ len, len = l.length := ⟨_, rfl⟩
  rw [← hle] at HLG ⊢
  clear hlg hlb hle hl
  rcases h with rfl | ⟨rfl, h | ⟨h1, h2⟩⟩
  · go_enter Try.func4, Try.ntmps4
    go_wp2_with fail
    refine (awake_ok _).mono ?_; rintro e w1 ⟨rfl, a1⟩
    have A1 := Lib.hid a1
    clear a1
    go_wp2_with fail
    refine (HLG.out _ A1.out).mono ?_; rintro e w2 ⟨rfl, rfl⟩
    go_wp2_with fail
    go_ret
    exact ⟨rfl, A1.out⟩
  · have e1 : decide (room < 1) = true := decide_eq_true h
    go_enter Try.func4, Try.ntmps4
    go_wp2_with fail
    refine (awake_ok _).mono ?_; rintro e w1 ⟨rfl, a1⟩
    have A1 := Lib.hid a1
    clear a1
    go_wp2_with fail
    refine (HLG.out _ A1.out).mono ?_; rintro e w2 ⟨rfl, rfl⟩
    go_wp2_with fail
    go_ret
    exact ⟨rfl, A1.out⟩
  · have e1 : decide (room < 1) = false := decide_eq_false h1
    have e2 : decide (5000 < room) = true := decide_eq_true h2
    go_enter Try.func4, Try.ntmps4
    go_wp2_with fail
    refine (awake_ok _).mono ?_; rintro e w1 ⟨rfl, a1⟩
    have A1 := Lib.hid a1
    clear a1
    go_wp2_with fail
    refine (HLG.out _ A1.out).mono ?_; rintro e w2 ⟨rfl, rfl⟩
    go_wp2_with fail
    go_ret
    exact ⟨rfl, A1.out⟩
end Go.Proofs.Ytpeebeebakjpdaa.Law9
