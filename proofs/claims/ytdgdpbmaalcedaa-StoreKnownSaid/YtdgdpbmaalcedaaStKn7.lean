/- StoreKnown: the states, plainly; the walk. -/
import Derived.Test.YtdgdpbmaalcedaaAwake7
import Derived.Deep.RegionWith
import Derived.Deep.OwnRows
import Derived.Laws.OwnMore
namespace Go.Proofs.Ytdgdpbmaalcedaa.Law7
open Go Go.RowKit Go.Proofs.Ytdgdpbmaalcedaa Go.Proofs.Ytdgdpbmaalcedaa.ShaW Go.Proofs.Ytdgdpbmaalcedaa.Path Go.Proofs.Ytdgdpbmaalcedaa.Store
set_option maxHeartbeats 3200000
set_option linter.unusedVariables false

theorem held_back (n : Nd) (h : n.held = 1) : withHeld { n with held := 0 } 1 = n := by
  cases n
  simp only at h
  subst h
  rfl
theorem wr0 : wrap64 (0 + 1) = 1 := by unfold wrap64; omega
theorem wr1 : wrap64 (1 + -1) = 0 := by unfold wrap64; omega
noncomputable def st4 (v u : Value) : SlabSt Nd := ⟨4, [(leafN 0 v, 2), ({ leafN 128 u with held := 0 }, 1), (top v u, 1)], []⟩
noncomputable def st5 (v : Value) : SlabSt Nd := ⟨4, [(leafN 0 v, 1), (Nd.zero, 0), (Nd.zero, 0)], [3, 2]⟩
noncomputable def st6 (v x : Value) : SlabSt Nd := ⟨4, [(leafN 0 v, 1), (leafN 64 x, 1), (Nd.zero, 0)], [3]⟩
noncomputable def low (v x : Value) : Nd := Nd.inner (Tag.innerD (leafN 0 v).digest (leafN 64 x).digest) (first (keyL 0) 1) 1 1 2 2
noncomputable def st7 (v x : Value) : SlabSt Nd := ⟨4, [({ leafN 0 v with held := 0 }, 1), ({ leafN 64 x with held := 0 }, 1), (low v x, 1)], []⟩
theorem inner_bad {σ : SlabSt Nd} {d l r : Int} (hd : 0 ≤ d ∧ d ≤ 255) (h : sideBad σ l ∨ sideBad σ r) : innerS σ d l r = (0, 7, σ) := by
  unfold innerS; rw [if_neg (by omega), if_pos h]
theorem inner_unfit {σ : SlabSt Nd} {d l r : Int} (hd : 0 ≤ d ∧ d ≤ 255) (h : ¬ (sideBad σ l ∨ sideBad σ r)) (hf : fitsB d l r (nd σ l) (nd σ r) = false) : innerS σ d l r = (0, 2, σ) := by
  unfold innerS; rw [if_neg (by omega), if_neg h, if_pos hf]
theorem good_side {σ : SlabSt Nd} {h : Int} (h1 : has σ h = true) (h2 : (nd σ h).held ≠ 0) : ¬ sideBad σ h := fun q => q.2.elim (fun e => by rw [h1] at e; cases e) h2
theorem none_side {σ : SlabSt Nd} : ¬ sideBad σ 0 := fun q => q.1 rfl
theorem step4 (v u : Value) : innerS (st3 v u) 0 1 0 = (0, 7, st3 v u) := inner_bad (by decide) (.inl ⟨by decide, .inr rfl⟩)
theorem step5 (v u : Value) : holdS (st3 v u) 1 = (0, st4 v u) := by
  have h1 : ((st3 v u).hold 1).1 = 0 := rfl
  have h2 : ((st3 v u).hold 1).2 = ⟨4, [({ leafN 0 v with held := 0 }, 2), ({ leafN 128 u with held := 0 }, 1), (top v u, 1)], []⟩ := rfl
  unfold holdS
  rw [if_pos h1, h2]
  have h3 : bump ⟨4, [({ leafN 0 v with held := 0 }, 2), ({ leafN 128 u with held := 0 }, 1), (top v u, 1)], []⟩ 1 1 = st4 v u := by
    show (SlabSt.set _ 1 (withHeld { leafN 0 v with held := 0 } (wrap64 (0 + 1)))).2 = _
    have e : withHeld { leafN 0 v with held := 0 } 1 = leafN 0 v := held_back _ rfl
    rw [wr0, e]; rfl
  rw [h3]
theorem step6 (v u : Value) : innerS (st4 v u) 0 1 0 = (0, 2, st4 v u) := inner_unfit (by decide) (fun h => h.elim (good_side rfl (by show ¬ (1 : Int) = 0; decide)) none_side) rfl
theorem step7 (v u : Value) : innerS (st4 v u) 0 0 1 = (0, 2, st4 v u) := inner_unfit (by decide) (fun h => h.elim none_side (good_side rfl (by show ¬ (1 : Int) = 0; decide))) rfl
theorem step8 (v u : Value) : innerS (st4 v u) 1 1 2 = (0, 7, st4 v u) := inner_bad (by decide) (.inr ⟨by decide, .inr rfl⟩)
theorem first0 : first (keyL 0) 0 = keyL 0 := by decide +kernel
theorem key3 (v u : Value) : (nd (st4 v u) 3).key = keyL 0 := (show (nd (st4 v u) 3).key = first (keyL 0) 0 from rfl).trans first0
theorem step9 (v u : Value) : dropS (st4 v u) 3 = (2, 0, st5 v) := by
  have h1 : has (st4 v u) 3 = true ∧ (nd (st4 v u) 3).held ≠ 0 := ⟨rfl, by show ¬ (1 : Int) = 0; decide⟩
  have h2 : bump (st4 v u) 3 (-1) = ⟨4, [(leafN 0 v, 2), ({ leafN 128 u with held := 0 }, 1), ({ top v u with held := 0 }, 1)], []⟩ := by
    show (SlabSt.set _ 3 (withHeld (top v u) (wrap64 (1 + -1)))).2 = _
    rw [wr1]; rfl
  have d1 : (⟨4, [(leafN 0 v, 2), ({ leafN 128 u with held := 0 }, 1), ({ top v u with held := 0 }, 1)], []⟩ : SlabSt Nd).drop Nd.zero 3 = (true, 0, ⟨4, [(leafN 0 v, 2), ({ leafN 128 u with held := 0 }, 1), (Nd.zero, 0)], [3]⟩) := rfl
  have d2 : (⟨4, [(leafN 0 v, 2), ({ leafN 128 u with held := 0 }, 1), (Nd.zero, 0)], [3]⟩ : SlabSt Nd).drop Nd.zero 1 = (false, 0, ⟨4, [(leafN 0 v, 1), ({ leafN 128 u with held := 0 }, 1), (Nd.zero, 0)], [3]⟩) := rfl
  have d3 : (⟨4, [(leafN 0 v, 1), ({ leafN 128 u with held := 0 }, 1), (Nd.zero, 0)], [3]⟩ : SlabSt Nd).drop Nd.zero 2 = (true, 0, st5 v) := rfl
  have p1 : pile (nd (⟨4, [(leafN 0 v, 2), ({ leafN 128 u with held := 0 }, 1), ({ top v u with held := 0 }, 1)], []⟩ : SlabSt Nd) 3) [] = [1, 2] := rfl
  have p2 : pile (nd (⟨4, [(leafN 0 v, 1), ({ leafN 128 u with held := 0 }, 1), (Nd.zero, 0)], [3]⟩ : SlabSt Nd) 2) [] = [] := rfl
  have s1 : sweep (⟨4, [(leafN 0 v, 2), ({ leafN 128 u with held := 0 }, 1), ({ top v u with held := 0 }, 1)], []⟩ : SlabSt Nd) [3] 0 = (2, st5 v) := by
    rw [sweep_free (by rw [d1]), d1, p1, sweep_keep (by rw [d2]), d2, sweep_free (by rw [d3]), d3, p2, sweep_nil]
  unfold dropS
  rw [if_pos h1, h2, s1]
  rfl
theorem step10 (v x : Value) : leafS (st5 v) (keyL 64) [] x = (2, 0, st6 v x) := by rw [leafS_nil]; rfl
theorem bits64 : bit (keyL 64) 0 = 0 ∧ bit (keyL 64) 1 = 1 ∧ bit (keyL 0) 1 = 0 ∧ common (keyL 0) (keyL 64) = 1 := by decide
theorem step11 (v x : Value) : innerS (st6 v x) 0 1 2 = (0, 2, st6 v x) := by
  refine inner_unfit (by decide) (fun h => h.elim (good_side rfl (by show ¬ (1 : Int) = 0; decide)) (good_side rfl (by show ¬ (1 : Int) = 0; decide))) ?_
  have e2 : fitB (leafN 64 x) 0 1 = false := by
    show (if unfit (leafN 64 x) 0 = true then false else decide (bit (keyL 64) 0 = 1)) = false
    rw [bits64.1]; rfl
  show (fitB (leafN 0 v) 0 0 && (fitB (leafN 64 x) 0 1 && decide ((0 : Int) ≤ (common (keyL 0) (keyL 64) : Nat)))) = false
  rw [e2]; simp
theorem step12 (v x : Value) : innerS (st6 v x) 1 1 2 = (3, 0, st7 v x) := by
  have h1 : nd (st6 v x) 1 = leafN 0 v := rfl
  have h2 : nd (st6 v x) 2 = leafN 64 x := rfl
  have hf : fitsB 1 1 2 (nd (st6 v x) 1) (nd (st6 v x) 2) = true := by
    rw [h1, h2]
    have e1 : fitB (leafN 0 v) 1 0 = true := by
      show (if unfit (leafN 0 v) 1 = true then false else decide (bit (keyL 0) 1 = 0)) = true
      rw [bits64.2.2.1]; rfl
    have e2 : fitB (leafN 64 x) 1 1 = true := by
      show (if unfit (leafN 64 x) 1 = true then false else decide (bit (keyL 64) 1 = 1)) = true
      rw [bits64.2.1]; rfl
    have e3 : common (leafN 0 v).key (leafN 64 x).key = 1 := bits64.2.2.2
    unfold fitsB
    rw [if_neg (by decide), if_neg (by decide), e1, e2, e3]
    rfl
  have hs : wrap64 ((nd (st6 v x) 1).size + (nd (st6 v x) 2).size) = 2 := by rw [h1, h2]; show wrap64 (1 + 1) = 2; unfold wrap64; omega
  have hn : innerNd (st6 v x) 1 1 2 = low v x := by unfold innerNd; rw [hs]; rfl
  have ht : (st6 v x).take (low v x) = (3, 0, ⟨4, [(leafN 0 v, 1), (leafN 64 x, 1), (low v x, 1)], []⟩) := rfl
  have b1 : bump ⟨4, [(leafN 0 v, 1), (leafN 64 x, 1), (low v x, 1)], []⟩ 1 (-1) = ⟨4, [({ leafN 0 v with held := 0 }, 1), (leafN 64 x, 1), (low v x, 1)], []⟩ := by
    show (SlabSt.set _ 1 (withHeld (leafN 0 v) (wrap64 (1 + -1)))).2 = _
    rw [wr1]; rfl
  have b2 : bump ⟨4, [({ leafN 0 v with held := 0 }, 1), (leafN 64 x, 1), (low v x, 1)], []⟩ 2 (-1) = st7 v x := by
    show (SlabSt.set _ 2 (withHeld (leafN 64 x) (wrap64 (1 + -1)))).2 = _
    rw [wr1]; rfl
  unfold innerS
  rw [if_neg (by decide), if_neg (fun h => h.elim (good_side rfl (by show ¬ (1 : Int) = 0; decide)) (good_side rfl (by show ¬ (1 : Int) = 0; decide))), if_neg (by rw [hf]; simp), hn, ht]
  simp only [ne_eq, not_true_eq_false, if_false]
  rw [b1, b2]
theorem roots (v x : Value) : rootErr (st7 v x) 3 = 2 ∧ rootErr (st7 v x) 0 = 0 ∧ rootErr (st7 v x) 1 = 0 ∧ rootErr (st7 v x) 9 = 7 := ⟨rfl, rfl, rfl, rfl⟩

theorem _root_.Go.Proofs.Ytdgdpbmaalcedaa.Store.Own.long {w0 w : World} {s : Nat} {σ : SlabSt Nd} (h : Own w0 w s σ) (K : Array Value) {ao : Option Addr} {len cap : Nat} (hl : 1024 < len) :
    Calls Try.prog 29 #[.pointer (some ⟨s, 0, none⟩), .agg K, .slice ao len cap] w fun e w' => e = .returned (.tuple #[.int .i64 0, .int .i64 4]) ∧ Adds w w' := by
  obtain ⟨F, h1, h2, h3⟩ := h
  exact Leaf_long h1 K hl

set_option maxRecDepth 100000 in
theorem known_ok (w : World) : Calls Try.prog 7 #[] w fun e w' => e = .returned (.bool true) ∧ Adds w w' := by
  obtain ⟨K0, hK0⟩ : ∃ K, K = brow (keyL 0) := ⟨_, rfl⟩
  obtain ⟨K1, hK1⟩ : ∃ K, K = brow (keyL 128) := ⟨_, rfl⟩
  obtain ⟨K2, hK2⟩ : ∃ K, K = brow (keyL 64) := ⟨_, rfl⟩
  obtain ⟨K3, hK3⟩ : ∃ K, K = brow (keyL 1) := ⟨_, rfl⟩
  have k0 := key_0
  have k1 := key_128
  have k2 := key_64
  have k3 := key_1
  rw [← hK0] at k0
  rw [← hK1] at k1
  rw [← hK2] at k2
  rw [← hK3] at k3
  have hneq : ∀ w0, (Go.binOp BinOp.neq 66 (.agg K0) (.agg K0)).run Try.prog w0 = .ok (.bool false) w0 := fun w0 => by
    have := neq_keys 66 Try.underlying66 (keyL 0) (keyL 0) rfl rfl w0
    rw [← hK0] at this
    simpa using this
  obtain ⟨DV, hDV⟩ : ∃ D, D = brow (Tag.valueD []) := ⟨_, rfl⟩
  obtain ⟨DL, hDL⟩ : ∃ D, D = brow (Tag.leafD (keyL 0) (Tag.valueD [])) := ⟨_, rfl⟩
  have heql : ∀ w0, (Go.binOp BinOp.eql 71 (.agg DL) (.agg DL)).run Try.prog w0 = .ok (.bool true) w0 := fun w0 => by
    have := eql_keys 71 Try.underlying71 (Tag.leafD (keyL 0) (Tag.valueD [])) (Tag.leafD (keyL 0) (Tag.valueD [])) (Tag.digest_length _ _) (Tag.digest_length _ _) w0
    rw [← hDL] at this
    simpa using this
  have htl := fun w => Tag.Leaf_ok (keyL 0) (Tag.valueD []) rfl (Tag.digest_length _ _) w
  rw [← hK0, ← hDV, ← hDL] at htl
  have htv := fun w => Tag.Value_ok (w := w) (Bytes.nil w) (fun h => absurd rfl h) (by simp)
  rw [← hDV] at htv
  have KK := Lib.hid (And.intro hK0 (And.intro hK1 (And.intro hK2 (And.intro hK3 hDL))))
  have KF := Lib.hid (And.intro k0 (And.intro k1 (And.intro k2 k3)))
  have TT := Lib.hid (And.intro htl htv)
  clear hK0 hK1 hK2 hK3 k0 k1 k2 k3 hDV hDL htl htv
  go_enter Try.func7, Try.ntmps7
  go_wp2_with fail
  refine (New_own 4 w (by decide) (by decide)).mono ?_; rintro e w1 ⟨s, rfl, h1⟩
  have H1 := Lib.hid h1
  clear h1
  go_wp2_with fail
  refine (KF.out.1 _).mono ?_; rintro e w2 ⟨rfl, hc2⟩
  have hl := (H1.out.adds hc2).leaf (keyL 0) rfl (Bytes.nil w2) (fun _ k hk => by cases hk)
  rw [← KK.out.1] at hl
  have HL := Lib.hid hl
  clear hc2 hl
  go_wp2_with fail
  refine HL.out.mono ?_; rintro e w3 ⟨v, rfl, h3⟩
  rw [step1] at h3 ⊢
  have H3 := Lib.hid h3
  clear h3
  go_wp2_with fail
  refine (KF.out.2.1 _).mono ?_; rintro e w4 ⟨rfl, hc4⟩
  have hl := (H3.out.adds hc4).leaf (keyL 128) rfl (Bytes.nil w4) (fun _ k hk => by cases hk)
  rw [← KK.out.2.1] at hl
  have HL4 := Lib.hid hl
  clear hc4 hl
  go_wp2_with fail
  refine HL4.out.mono ?_; rintro e w5 ⟨u, rfl, h5⟩
  rw [step2] at h5 ⊢
  have H5 := Lib.hid h5
  clear h5
  go_wp2_with fail
  refine (H5.out.inner 0 1 2).mono ?_; rintro e w6 ⟨rfl, h6⟩
  rw [step3] at h6 ⊢
  have H6 := Lib.hid h6
  clear h6
  go_wp2_with fail
  refine (H6.out.inner 0 1 0).mono ?_; rintro e w7 ⟨rfl, h7⟩
  rw [step4] at h7 ⊢
  have H7 := Lib.hid h7
  clear h7
  go_wp2_with fail
  refine (H7.out.hold 1).mono ?_; rintro e w8 ⟨rfl, h8⟩
  rw [step5] at h8 ⊢
  have H8 := Lib.hid h8
  clear h8
  go_wp2_with fail
  refine (H8.out.inner 0 1 0).mono ?_; rintro e w9 ⟨rfl, h9⟩
  rw [step6] at h9 ⊢
  have H9 := Lib.hid h9
  clear h9
  go_wp2_with fail
  refine (H9.out.inner 0 0 1).mono ?_; rintro e w10 ⟨rfl, h10⟩
  rw [step7] at h10 ⊢
  have H10 := Lib.hid h10
  clear h10
  go_wp2_with fail
  refine (H10.out.inner 1 1 2).mono ?_; rintro e w11 ⟨rfl, h11⟩
  rw [step8] at h11 ⊢
  have H11 := Lib.hid h11
  clear h11
  go_wp2_with fail
  refine (H11.out.keyC 3).mono ?_; rintro e w12 ⟨rfl, hc12⟩
  rw [key3, ← KK.out.1]
  have H12 := Lib.hid (H11.out.adds hc12)
  clear hc12
  go_wp2_with fail
  refine (KF.out.1 _).mono ?_; rintro e w13 ⟨rfl, hc13⟩
  have H13 := Lib.hid (H12.out.adds hc13)
  clear hc13
  go_wp2_with fail
  refine (H13.out.drop 3).mono ?_; rintro e w14 ⟨rfl, h14⟩
  rw [step9] at h14 ⊢
  have H14 := Lib.hid h14
  clear h14
  go_wp2_with fail
  refine (H14.out.occupied).mono ?_; rintro e w15 ⟨rfl, rfl⟩
  rw [show (st5 v).used = 1 from rfl]
  go_wp2_with fail
  refine (H14.out.digest 1).mono ?_; rintro e w15 ⟨rfl, hc15⟩
  rw [show brow (digestOf (st5 v) 1) = DL from KK.out.2.2.2.2.symm]
  have H15 := Lib.hid (H14.out.adds hc15)
  clear hc15
  go_wp2_with fail
  refine (KF.out.1 _).mono ?_; rintro e w16 ⟨rfl, hc16⟩
  have H16 := Lib.hid (H15.out.adds hc16)
  clear hc16
  go_wp2_with fail
  refine (TT.out.2 _).mono ?_; rintro e w17 ⟨rfl, hc17⟩
  have H17 := Lib.hid (H16.out.adds hc17)
  clear hc17
  go_wp2_with fail
  refine (TT.out.1 _).mono ?_; rintro e w18 ⟨rfl, hc18⟩
  have H18 := Lib.hid (H17.out.adds hc18)
  clear hc18
  go_wp2_with fail
  refine (KF.out.2.2.1 _).mono ?_; rintro e w19 ⟨rfl, hc19⟩
  have hl := (H18.out.adds hc19).leaf (keyL 64) rfl (Bytes.nil w19) (fun _ k hk => by cases hk)
  rw [← KK.out.2.2.1] at hl
  have HL9 := Lib.hid hl
  clear hc19 hl
  go_wp2_with fail
  refine HL9.out.mono ?_; rintro e w20 ⟨x, rfl, h20⟩
  rw [step10] at h20 ⊢
  have H20 := Lib.hid h20
  clear h20
  go_wp2_with fail
  refine (H20.out.inner 0 1 2).mono ?_; rintro e w21 ⟨rfl, h21⟩
  rw [step11] at h21 ⊢
  have H21 := Lib.hid h21
  clear h21
  go_wp2_with fail
  refine (H21.out.inner 1 1 2).mono ?_; rintro e w22 ⟨rfl, h22⟩
  rw [step12] at h22 ⊢
  have H22 := Lib.hid h22
  clear h22
  go_wp2_with fail
  refine (New_bad 0 _ (by decide)).mono ?_; rintro e w23 ⟨rfl, rfl⟩
  go_wp2_with fail
  refine (New_bad 65537 _ (by decide)).mono ?_; rintro e w23 ⟨rfl, rfl⟩
  have hmk : ∀ w : World, (Instr.makeSlice 75 (.int .i64 1025) (.int .i64 1025)).run Try.prog w = .ok (.slice (some ⟨w.heap.size, 0, none⟩) 1025 1025) (w.alloc (.cells (madeCells #[.int .u8 0] 1025) 5)) := fun w =>
    run_make_row' 75 5 (.int .u8 0) 1 Try.underlying75 (by kernel_rfl) rfl .i64 .i64 1025 (by omega) (by omega) w
  obtain ⟨MC, hMC⟩ : ∃ MC, MC = madeCells #[Value.int .u8 0] 1025 := ⟨_, rfl⟩
  rw [← hMC] at hmk
  clear hMC
  have hlong : ∀ w1, Adds w22 w1 → ∀ g, Calls Try.prog 29 #[.pointer (some ⟨s, 0, none⟩), .agg K3, .slice (some ⟨g, 0, none⟩) 1025 1025] w1 fun e w' => e = .returned (.tuple #[.int .i64 0, .int .i64 4]) ∧ Adds w1 w' := fun w1 h1 g => (H22.out.adds h1).long K3 (by decide)
  have LG := Lib.hid hlong
  clear hlong
  go_wp2
  go_region_with (first
    | (go_at_call 30; refine (KF.out.2.2.2 _).mono ?_; rintro e w23 ⟨rfl, hc23⟩; have hk23 := Lib.hid (show Adds w22 w23 from (by first | exact (Ch.refl (fun _ => False) w22).drew.trans hc23 (fun _ h => h.elim) | exact ((Ch.refl (fun _ => False) w22).drew.alloc _).trans hc23 (fun _ h => h.elim))); clear hc23)
    | (go_at_call 29; refine (LG.out _ ?_ _).mono ?_; (first | exact hk23.out | exact hk23.out.alloc _); rintro e w24 ⟨rfl, hc24⟩; have hk24 := Lib.hid (show Adds w22 w24 from (by first | exact hk23.out.trans hc24 (fun _ h => h.elim) | exact (hk23.out.alloc _).trans hc24 (fun _ h => h.elim))); clear hc24))
  all_goals
    have H24 := Lib.hid (H22.out.adds hk24.out)
    clear hk23 hk24
    go_wp2_with fail
    refine (awake_ok _).mono ?_; rintro e w25 ⟨rfl, hc25⟩
    have H25 := Lib.hid (H24.out.adds hc25)
    clear hc25
    go_wp2_with fail
    refine (H25.out.root 3).mono ?_; rintro e w26 ⟨rfl, hc26⟩
    rw [(roots v x).1]
    have H26 := Lib.hid (H25.out.adds hc26)
    clear hc26
    go_wp2_with fail
    refine (H26.out.root 0).mono ?_; rintro e w27 ⟨rfl, hc27⟩
    rw [(roots v x).2.1]
    have H27 := Lib.hid (H26.out.adds hc27)
    clear hc27
    go_wp2_with fail
    refine (H27.out.root 1).mono ?_; rintro e w28 ⟨rfl, hc28⟩
    rw [(roots v x).2.2.1]
    have H28 := Lib.hid (H27.out.adds hc28)
    clear hc28
    go_wp2_with fail
    refine (H28.out.root 9).mono ?_; rintro e w29 ⟨rfl, hc29⟩
    rw [(roots v x).2.2.2]
    have H29 := Lib.hid (H28.out.adds hc29)
    clear hc29
    go_wp2
    go_ret
    exact ⟨rfl, H29.out.world⟩

end Go.Proofs.Ytdgdpbmaalcedaa.Law7
