/- The contract of sha.State's Write: a text grows. -/
import Derived.Test.YtdgdpbmaalcedaaShaU
namespace Go.Proofs.Ytdgdpbmaalcedaa.ShaW
open Go Go.RowKit Go.Proofs.Ytdgdpbmaalcedaa
set_option maxHeartbeats 3200000
set_option linter.unusedVariables false

theorem own_adv {so : Option Addr} {m cp k a : Nat} (h : ∀ b, (Value.slice so m cp).ownBlock = some b → b ≠ a) : ∀ b, (Value.slice (adv so cp k) (m - k) (cp - k)).ownBlock = some b → b ≠ a := fun b hb => by
  obtain ⟨n', c', h'⟩ := adv_block hb
  refine h b ?_
  cases so <;> exact h'

set_option maxRecDepth 100000 in
theorem Write_ok {w : World} {a : Nat} {txt bs : List UInt8} {v : Value} (hs : Stands w a txt) (hb : Bytes w v bs) (hne : bs ≠ [] → ∀ k, v.ownBlock = some k → k ≠ a) (hlen : txt.length + bs.length ≤ 1125899906842624) :
    Calls Try.prog 112 #[.pointer (some ⟨a, 0, none⟩), v] w fun e w' => e = .returned (.int .i64 bs.length) ∧ Stands w' a (txt ++ bs) ∧ Ch (fun k => k = a) w w' := by
  obtain ⟨bl, hbl, hrest, hst⟩ := hs
  have hwl := Sha.words_length txt
  have c0 := row_cell hst stc_made
  have c74 := row_cell hst (stc_all hwl hbl)
  have f74 := row_free hst 74
  have l0 := row_lt hst
  obtain ⟨ao, cap, rfl, hcap, hcm⟩ := hb.form
  have HB := Lib.hid hb
  have HNE := Lib.hid hne
  have HST := Lib.hid (And.intro hbl (And.intro hrest hst))
  have HWL := Lib.hid hwl
  have hlt : (txt.length : Int) + (bs.length : Int) ≤ 1125899906842624 := by omega
  have HL := Lib.hid hlen
  unfold maxLen at hcm
  clear hb hne hbl hrest hst hwl hlen
  go_enter Try.func112, Try.ntmps112
  go_wp2_with fail
  refine (none_no c0).mono ?_; rintro e w1 ⟨rfl, rfl⟩
  go_wp2
  have hch0 : Ch (fun k => k = a) w (w.setCell ⟨a, 74, none⟩ (.int .i64 ((txt.length : Int) + (bs.length : Int)))) := (Ch.refl (fun k => k = a) w).setCell (p := ⟨a, 74, none⟩) (.inl rfl) _
  have hb0 := HB.out.keepw hch0 HNE.out
  have hst0 : StAt (w.setCell ⟨a, 74, none⟩ (.int .i64 ((txt.length : Int) + (bs.length : Int)))) a (Sha.words txt) bl (txt.length % 64) (txt.length + bs.length) := by
    have := row_set_same HST.out.2.2 74 (.int .i64 ((txt.length + bs.length : Nat) : Int))
    rw [stc_set_all HWL.out HST.out.1] at this
    exact this
  obtain ⟨wa, hwa⟩ : ∃ wa, wa = w.setCell ⟨a, 74, none⟩ (.int .i64 ((txt.length : Int) + (bs.length : Int))) := ⟨_, rfl⟩
  rw [← hwa] at hch0 hb0 hst0 ⊢
  have HC0 := Lib.hid hch0
  have HB0 := Lib.hid hb0
  have HS0 := Lib.hid hst0
  clear hch0 hb0 hst0 hwa c0 c74 f74 l0
  go_loopg [5] bs.length (fun g s5 wr => ∃ (j m : Nat) (so : Option Addr) (cp : Nat) (bl' : List UInt8), j + m = bs.length ∧ m = g ∧ s5 = .slice so m cp ∧ Bytes wr (.slice so m cp) (bs.drop j) ∧ (m ≠ 0 → ∀ k, (Value.slice so m cp).ownBlock = some k → k ≠ a) ∧
    bl'.length = 64 ∧ bl'.take ((txt ++ bs.take j).length % 64) = Sha.rest (txt ++ bs.take j) ∧ StAt wr a (Sha.words (txt ++ bs.take j)) bl' ((txt ++ bs.take j).length % 64) (txt.length + bs.length) ∧ Ch (fun k => k = a) w wr)
  case atStart =>
    refine ⟨0, bs.length, ao, cap, bl, by omega, rfl, rfl, by simpa using HB0.out, fun h => HNE.out (fun e => h (by rw [e]; rfl)), HST.out.1, ?_, ?_, HC0.out⟩
    · simpa using HST.out.2.1
    · simpa using HS0.out
  case round =>
    obtain ⟨j, m, so, cp, bl', hjm, rfl, rfl, hby, hne, hbl, hrest, hst, hch⟩ := hrel
    by_cases hm : 0 < m
    · obtain ⟨t', ht'⟩ : ∃ t', t' = txt ++ bs.take j := ⟨_, rfl⟩
      rw [← ht'] at hrest hst
      obtain ⟨n, hn⟩ : ∃ n, n = t'.length % 64 := ⟨_, rfl⟩
      have hn63 : n ≤ 63 := by omega
      rw [← hn] at hrest hst
      obtain ⟨k, hk⟩ : ∃ k, k = Nat.min m (64 - n) := ⟨_, rfl⟩
      have hk1 : 1 ≤ k := by rw [hk]; exact Nat.le_min.2 ⟨hm, by omega⟩
      have hkg : k ≤ m := by rw [hk]; exact Nat.min_le_left _ _
      have hkn : n + k ≤ 64 := by have : k ≤ 64 - n := by rw [hk]; exact Nat.min_le_right _ _
                                  omega
      obtain ⟨ch, hcs⟩ : ∃ ch, ch = (bs.drop j).take k := ⟨_, rfl⟩
      have hcl : ch.length = k := by rw [hcs, List.length_take, List.length_drop]; omega
      have hwl := Sha.words_length t'
      have c73 := row_cell hst (stc_n hwl hbl)
      obtain ⟨hbl0, hbc⟩ := hby.at
      obtain ⟨x0, hx0⟩ : ∃ x0, (bs.drop j)[0]? = some x0 := ⟨_, List.getElem?_eq_getElem (by rw [List.length_drop]; omega)⟩
      obtain ⟨gs, off, rfl, _⟩ := hbc 0 x0 hx0
      have hsrc : ∀ i v, (ch.map bv)[i]? = some v → wr.cell? ((⟨gs, off, none⟩ : Addr).add i) = some v := fun i v hv => by
        rw [List.getElem?_map] at hv
        obtain ⟨x, hx, rfl⟩ := Option.map_eq_some_iff.1 hv
        have hil := (List.getElem?_eq_some_iff.1 hx).1
        rw [hcs, List.getElem?_take_of_lt (by omega)] at hx
        obtain ⟨g', o', he, hc⟩ := hbc i x hx
        cases he
        rw [add_plain]
        exact hc
      have hgl : (0 : Int) < (m : Int) := by omega
      have hn63' : (n : Int) ≤ 63 := by omega
      have hn64 : decide (64 = n) = false := by simp; omega
      have hcpb : m ≤ cp := by obtain ⟨_, _, he, h1, _⟩ := hby; cases he; omega
      have BY := Lib.hid hby
      have NE := Lib.hid (hne (by omega))
      have BL := Lib.hid hbl
      have RE := Lib.hid hrest
      have ST := Lib.hid hst
      have CH := Lib.hid hch
      have SRC := Lib.hid hsrc
      have WL := Lib.hid hwl
      have CS := Lib.hid (And.intro hcs hcl)
      have KK := Lib.hid hk
      have NN := Lib.hid (And.intro hn ht')
      have HJ := Lib.hid hjm
      clear hby hne hbl hrest hst hch hsrc hwl hcs hcl hk hn ht' hjm hbl0 hbc hx0
      have hsl : ∀ w0 : World, (Instr.sliceAt 179 (.pointer (some ⟨a, 9, none⟩)) (some (.int .i64 (n : Int))) none none).run Try.prog w0 = .ok (.slice (some ⟨a, 9 + n, none⟩) (64 - n) (64 - n)) w0 := fun w0 =>
        run_arr_l w0 179 64 (by kernel_rfl) (by kernel_rfl) (by kernel_rfl) a 9 n .i64 (by omega)
      go_wp2
      refine wp_region_plan (fun w0 => w0 = (wr).drew) 9 [(0, false), (1, false), (2, false), (3, false), (4, false), (5, false), (6, false), (7, false), (8, false)] (by kernel_rfl) (by kernel_rfl) rfl ?_
      iterate 9 refine plan_look rfl rfl (fun w0 hS => (by subst hS; go_simp; try rfl)) ?_
      refine plan_end ?_
      simp only [List.drop_succ_cons, List.drop_zero, Act.put, List.setIfInBounds_toArray, List.set_cons_succ, List.set_cons_zero]
      have hnew : (((stc (Sha.words t') bl' n (txt.length + bs.length)).toList.take (9 + n)) ++ (ch.map bv ++ (stc (Sha.words t') bl' n (txt.length + bs.length)).toList.drop (9 + n + k))).toArray = stc (Sha.words t') (bl'.take n ++ ch ++ bl'.drop (n + k)) n (txt.length + bs.length) := by
        rw [← CS.out.2]
        exact stc_splice_b WL.out BL.out ch (by rw [CS.out.2]; exact hkn)
      refine wpList_copy_into rfl (.tmp 29) (.tmp 30) 75 75 rfl 5 Try.underlying75 (by kernel_rfl) a (9 + n) (64 - n) (64 - n) ⟨gs, off, none⟩ m cp rfl rfl (stc (Sha.words t') bl' n (txt.length + bs.length)) _ (row_drew ST.out) (ch.map bv) k (by rw [List.length_map]; exact CS.out.2) KK.out SRC.out (by rw [stc_size WL.out BL.out]; omega) (map_bv_one _) _ hnew ?_
      clear hnew hsl
      obtain ⟨bl2, hbl2⟩ : ∃ bl2, bl2 = bl'.take n ++ ch ++ bl'.drop (n + k) := ⟨_, rfl⟩
      rw [← hbl2]
      have hbl2l : bl2.length = 64 := by rw [hbl2]; simp [BL.out, CS.out.2]; omega
      obtain ⟨w2, hw2⟩ : ∃ w2, w2 = wr.drew.setRow a (stc (Sha.words t') bl2 n (txt.length + bs.length)) := ⟨_, rfl⟩
      rw [← hw2]
      have hst2 : StAt w2 a (Sha.words t') bl2 n (txt.length + bs.length) := by rw [hw2]; exact row_setRow_same (row_drew ST.out) _
      have hch2 : Ch (fun k => k = a) wr w2 := by rw [hw2]; exact ((Ch.refl (fun k => k = a) wr).drew).setRow (.inl rfl) _
      have c73' := row_cell hst2 (stc_n WL.out hbl2l)
      have f73 := row_free hst2 73
      have l73 := row_lt hst2
      have hk64 : (k : Int) ≤ 64 := by omega
      have hkm : (k : Int) ≤ (m : Int) := by omega
      have BL2 := Lib.hid (And.intro hbl2 hbl2l)
      have ST2 := Lib.hid hst2
      have CH2 := Lib.hid hch2
      clear hbl2 hbl2l hst2 hch2 hw2 c73
      obtain ⟨so2, hso2⟩ : ∃ so2, so2 = adv (some ⟨gs, off, none⟩) cp k := ⟨_, rfl⟩
      have hsa : ∀ w0 : World, (Instr.sliceAt 75 (.slice (some ⟨gs, off, none⟩) m cp) (some (.int .i64 (k : Int))) none none).run Try.prog w0 = .ok (.slice so2 (m - k) (cp - k)) w0 := fun w0 => by
        rw [hso2]; exact run_slice_adv w0 75 (by kernel_rfl) (by kernel_rfl) _ m cp k .i64 hkg
      have HSO := Lib.hid hso2
      clear hso2
      by_cases hf : n + k = 64
      · have hfb : (((n : Int) + (k : Int)) == 64) = true := by simp; omega
        have HF := Lib.hid hf
        clear hf
        go_wp2
        refine NoPanic.normal ?_
        go_wp2
        have hst3 : StAt (w2.setCell ⟨a, 73, none⟩ (.int .i64 ((n : Int) + (k : Int)))) a (Sha.words t') bl2 64 (txt.length + bs.length) := by
          have := row_set_same ST2.out 73 (.int .i64 ((n + k : Nat) : Int))
          rw [stc_set_n WL.out BL2.out.2, HF.out] at this
          rw [← HF.out] at this ⊢
          exact this
        have hch3 : Ch (fun k => k = a) wr (w2.setCell ⟨a, 73, none⟩ (.int .i64 ((n : Int) + (k : Int)))) := CH2.out.setCell (p := ⟨a, 73, none⟩) (.inl rfl) _
        obtain ⟨w3, hw3⟩ : ∃ w3, w3 = w2.setCell ⟨a, 73, none⟩ (.int .i64 ((n : Int) + (k : Int))) := ⟨_, rfl⟩
        rw [← hw3] at hst3 hch3 ⊢
        obtain ⟨R, hR⟩ : ∃ R, R = stc (Sha.words t') bl2 64 (txt.length + bs.length) := ⟨_, rfl⟩
        have hRs : R.size = 75 := by rw [hR]; exact stc_size WL.out BL2.out.2
        have hRh : R.extract 1 (1 + 8) = wrow (Sha.words t') := by rw [hR]; exact stc_h WL.out BL2.out.2
        have hRb : R.extract 9 (9 + 64) = brow bl2 := by rw [hR]; exact stc_b WL.out BL2.out.2
        have hS0 : w3.drew.heap[a]? = some (.cells R 181 (0, 0)) := by rw [hR]; exact hst3
        have CH3 := Lib.hid hch3
        have HR := Lib.hid (And.intro hR (And.intro hRs (And.intro hRh hRb)))
        clear hst3 hch3 hw3 hR hRs hRh hRb c73' f73 l73
        refine wp_region_plan (fun w0 => ∃ h' : List UInt32, h'.length = 8 ∧ w0.heap[a]? = some (.cells (stc h' bl2 64 (txt.length + bs.length)) 181 (0, 0))) 14 [(0, false), (1, false), (2, false), (3, false), (4, false), (6, false), (7, false), (8, false), (9, false), (5, true), (10, true), (11, false), (12, false), (13, true)] (by kernel_rfl) (by kernel_rfl) ?_ ?_
        · exact ⟨_, WL.out, by rw [← HR.out.1]; exact hS0⟩
        iterate 8 refine plan_look rfl rfl (fun w0 hS => (by go_simp; try rfl)) ?_
        simp only [Act.put, List.setIfInBounds_toArray, List.set_cons_succ, List.set_cons_zero]
        refine plan_look (v := .agg (brow bl2)) rfl rfl (fun w0 hS => ?_) ?_
        · obtain ⟨h', hh', hg'⟩ := hS
          unfold execOp
          simp only [Sem.run_bind, Sem.run_pure, Instr.loadAt]
          rw [show Act.eval _ _ = Value.pointer (some ⟨a, 9, none⟩) from rfl]
          simp only [Instr.sureAddr, Sem.run_pure, Result.andThen_ok]
          rw [run_load_part w0 hg' Try.underlying179 rfl sizeb64 (by rw [stc_size hh' BL2.out.2]; omega)]
          rw [show (stc h' bl2 64 (txt.length + bs.length)).extract 9 (9 + 64) = brow bl2 from stc_b hh' BL2.out.2]
          rfl
        simp only [Act.put, List.setIfInBounds_toArray, List.set_cons_succ, List.set_cons_zero]
        refine plan_do rfl ?_
        refine wpList_load_part rfl 177 (.tmp 52) rfl a 1 rfl hS0 Try.underlying177 rfl size8 (by rw [HR.out.2.1]; omega) _ HR.out.2.2.1 ?_
        refine wpList_nil ?_
        change _ ∧ _
        refine ⟨⟨_, WL.out, by rw [← HR.out.1]; exact hS0⟩, ?_⟩
        simp only [Act.put, List.setIfInBounds_toArray, List.set_cons_succ, List.set_cons_zero]
        refine plan_do rfl ?_
        go_wp2_with fail
        refine (Step_ok _ WL.out _ BL2.out.2 _).mono ?_; rintro e w5 ⟨rfl, hc5⟩
        dsimp only
        go_step
        refine wpList_nil ?_
        change _ ∧ _
        have hS5 : w5.heap[a]? = some (.cells R 181 (0, 0)) := hc5.row hS0 id
        refine ⟨⟨_, WL.out, by rw [← HR.out.1]; exact hS5⟩, ?_⟩
        iterate 2 refine plan_look rfl rfl (fun w0 hS => (by go_simp; try rfl)) ?_
        refine plan_do rfl ?_
        have hR2 : (splice R.toList 1 (wrow (Sha.step (Sha.words t') bl2)).toList).toArray = stc (Sha.step (Sha.words t') bl2) bl2 64 (txt.length + bs.length) := by rw [HR.out.1]; exact stc_splice_h WL.out BL2.out.2 _ (Sha.step_length _ _ WL.out)
        have hSl := Sha.step_length (Sha.words t') bl2 WL.out
        obtain ⟨h6, hh6⟩ : ∃ h6, h6 = Sha.step (Sha.words t') bl2 := ⟨_, rfl⟩
        rw [← hh6] at hR2 hSl ⊢
        simp only [Act.put, List.setIfInBounds_toArray, List.set_cons_succ, List.set_cons_zero]
        refine wpList_store_part rfl 177 (.tmp 60) (.tmp 58) rfl a 1 (wrow h6) rfl rfl hS5 (by rw [size8, wrow_size, hSl]) (by rw [wrow_size, hSl, HR.out.2.1]; omega) (wrow_one _) _ hR2 ?_
        refine wpList_nil ?_
        change _ ∧ _
        refine ⟨⟨_, hSl, row_setRow_same hS5 _⟩, ?_⟩
        refine plan_end ?_; simp only [List.drop_succ_cons, List.drop_zero]
        have hst6 : StAt (w5.setRow a (stc h6 bl2 64 (txt.length + bs.length))) a h6 bl2 64 (txt.length + bs.length) := row_setRow_same hS5 _
        have hch6 : Ch (fun k => k = a) w3 (w5.setRow a (stc h6 bl2 64 (txt.length + bs.length))) := (((Ch.refl (fun k => k = a) w3).drew.trans hc5 (fun _ h => h.elim))).setRow (.inl rfl) _
        obtain ⟨w6, hw6⟩ : ∃ w6, w6 = w5.setRow a (stc h6 bl2 64 (txt.length + bs.length)) := ⟨_, rfl⟩
        rw [← hw6] at hst6 hch6 ⊢
        have c73 := row_cell hst6 (stc_n hSl BL2.out.2)
        have f73 := row_free hst6 73
        have l73 := row_lt hst6
        have ST6 := Lib.hid hst6
        have CH6 := Lib.hid hch6
        have H6 := Lib.hid (And.intro hh6 hSl)
        clear hst6 hch6 hh6 hSl hR2 hS5 hc5 hw6 hS0
        go_wp2
        refine NoPanic.normal ?_
        go_wp2
        go_roundg (m - k)
        case measure => omega
        case rel =>
          have hchA : Ch (fun k => k = a) wr (w6.setCell ⟨a, 73, none⟩ (.int .i64 0)) := (CH3.out.trans_same CH6.out).setCell (p := ⟨a, 73, none⟩) (.inl rfl) _
          have htk : txt ++ bs.take (j + k) = t' ++ ch := by rw [NN.out.2, CS.out.1, List.append_assoc, ← List.take_add]
          have hgr := Sha.grow_full (l := t') (m := ch) (by rw [← NN.out.1, CS.out.2]; exact HF.out)
          have hb2 : bl2 = Sha.rest t' ++ ch := by rw [BL2.out.1, RE.out, List.drop_eq_nil_of_le (by rw [BL.out, HF.out]; exact Nat.le_refl _), List.append_nil]
          have hmod : (t' ++ ch).length % 64 = 0 := by have := NN.out.1; have := HF.out; rw [List.length_append, CS.out.2]; omega
          refine ⟨j + k, m - k, so2, cp - k, bl2, by have := HJ.out; omega, rfl, rfl, ?_, ?_, BL2.out.2, ?_, ?_, CH.out.trans_same hchA⟩
          · have := ((BY.out.drop hkg).keep hchA (own_adv NE.out))
            rw [HSO.out]
            rwa [List.drop_drop] at this
          · rw [HSO.out]; exact fun _ => own_adv NE.out
          · rw [htk, hgr.2, hmod, List.take_zero]
          · rw [htk, hgr.1, hmod]
            have := row_set_same ST6.out 73 (.int .i64 ((0 : Nat) : Int))
            rw [stc_set_n H6.out.2 BL2.out.2, H6.out.1, hb2] at this
            rw [hb2]
            exact this
      · have hkm' : k = m := by
          have := KK.out
          rcases Nat.le_total m (64 - n) with h | h
          · rw [this]; exact Nat.min_eq_left h
          · exact absurd (by rw [this, show Nat.min m (64 - n) = 64 - n from Nat.min_eq_right h]; omega) hf
        have hlt64 : n + k < 64 := by omega
        have hfb : (((n : Int) + (k : Int)) == 64) = false := by simp; omega
        have HF := Lib.hid (And.intro hkm' hlt64)
        clear hf hkm' hlt64
        go_wp2
        refine NoPanic.normal ?_
        go_wp2
        go_roundg (m - k)
        case measure => omega
        case rel =>
          have hchA : Ch (fun k => k = a) wr (w2.setCell ⟨a, 73, none⟩ (.int .i64 ((n : Int) + (k : Int)))) := CH2.out.setCell (p := ⟨a, 73, none⟩) (.inl rfl) _
          have htk : txt ++ bs.take (j + k) = t' ++ ch := by rw [NN.out.2, CS.out.1, List.append_assoc, ← List.take_add]
          have hgr := Sha.grow_in (l := t') (m := ch) (by rw [← NN.out.1, CS.out.2]; exact HF.out.2)
          have hmod : (t' ++ ch).length % 64 = n + k := by have := NN.out.1; have := HF.out.2; rw [List.length_append, CS.out.2]; omega
          have hb2 : bl2.take (n + k) = Sha.rest t' ++ ch := by
            rw [BL2.out.1, RE.out, List.take_append_of_le_length (by rw [List.length_append, Sha.rest_length, ← NN.out.1, CS.out.2]; exact Nat.le_refl _), List.take_of_length_le (by rw [List.length_append, Sha.rest_length, ← NN.out.1, CS.out.2]; exact Nat.le_refl _)]
          refine ⟨j + k, m - k, so2, cp - k, bl2, by have := HJ.out; omega, rfl, rfl, ?_, ?_, BL2.out.2, ?_, ?_, CH.out.trans_same hchA⟩
          · have := ((BY.out.drop hkg).keep hchA (own_adv NE.out))
            rw [HSO.out]
            rwa [List.drop_drop] at this
          · rw [HSO.out]; exact fun _ => own_adv NE.out
          · rw [htk, hgr.2, hmod, hb2]
          · rw [htk, hgr.1, hmod]
            have := row_set_same ST2.out 73 (.int .i64 ((n + k : Nat) : Int))
            rw [stc_set_n WL.out BL2.out.2] at this
            exact this
    · have h0 : j = bs.length := by omega
      have hmz : m = 0 := by omega
      have hd : decide (0 < m) = false := by simp; omega
      rw [h0, List.take_length] at hrest hst
      have ST := Lib.hid hst
      have RE := Lib.hid hrest
      have BL := Lib.hid hbl
      have CHH := Lib.hid hch
      clear hst hrest hbl hch hby hne h0 hmz hm hjm
      go_wp2
      go_ret
      exact ⟨rfl, ⟨bl', BL.out, RE.out, by have := ST.out; rw [← List.length_append] at this; exact this⟩, CHH.out⟩

end Go.Proofs.Ytdgdpbmaalcedaa.ShaW
