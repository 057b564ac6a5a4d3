/- DictNil: the walk. -/
import Derived.Test.YtooijgcildbnlaaGreatDictZ
import Derived.Test.YtooijgcildbnlaaGreatInAct15
import Derived.Deep.LoopGhost
import Derived.Deep.CutRange
import Derived.Deep.DeepCutAuto
namespace Go.Proofs.YtooijgcildbnlaaGreat.Law15
open Go Go.RowKit Go.Proofs.YtooijgcildbnlaaGreat Go.Proofs.YtooijgcildbnlaaGreat.ShaW Go.Proofs.YtooijgcildbnlaaGreat.Path Go.Proofs.YtooijgcildbnlaaGreat.Store Go.Proofs.YtooijgcildbnlaaGreat.Law9
set_option maxHeartbeats 6400000
set_option linter.unusedVariables false

theorem neq_zero : ∀ w : World, (binOp .neq 85 (.agg (brow (List.replicate 32 0))) (.agg #[.int .u8 0, .int .u8 0, .int .u8 0, .int .u8 0, .int .u8 0, .int .u8 0, .int .u8 0, .int .u8 0, .int .u8 0, .int .u8 0, .int .u8 0, .int .u8 0, .int .u8 0, .int .u8 0, .int .u8 0, .int .u8 0, .int .u8 0, .int .u8 0, .int .u8 0, .int .u8 0, .int .u8 0, .int .u8 0, .int .u8 0, .int .u8 0, .int .u8 0, .int .u8 0, .int .u8 0, .int .u8 0, .int .u8 0, .int .u8 0, .int .u8 0, .int .u8 0])).run Tryz.prog w = .ok (.bool false) w := fun w => by kernel_rfl
set_option maxRecDepth 100000 in
theorem dnil_law {w : World} (x : Act15) :
    Calls Tryz.prog 6 #[.agg x.cells] w fun e w' => e = .returned (.bool true) ∧ Adds w w' := by
  obtain ⟨C, hC⟩ : ∃ C, C = x.cells := ⟨_, rfl⟩
  have c1 : C[1]? = some (.string (bstr x.nm)) := by rw [hC]; rfl
  have c2 : C[2]? = some x.kv := by rw [hC]; rfl
  have c3 : C[3]? = some x.vv := by rw [hC]; rfl
  have c4 : C[4]? = some (.slice x.ao x.l.length x.cap) := by rw [hC]; rfl
  have c5 : C[5]? = some (.int .i64 x.most) := by rw [hC]; rfl
  rw [← hC]
  obtain ⟨S, hS⟩ : ∃ S, S = bstr x.nm := ⟨_, rfl⟩
  obtain ⟨K, hK⟩ : ∃ K, K = x.kv := ⟨_, rfl⟩
  obtain ⟨V, hV⟩ : ∃ V, V = x.vv := ⟨_, rfl⟩
  obtain ⟨ln, hln⟩ : ∃ ln, ln = x.l.length := ⟨_, rfl⟩
  obtain ⟨cp, hcp⟩ : ∃ cp, cp = x.cap := ⟨_, rfl⟩
  obtain ⟨ao, hao⟩ : ∃ ao, ao = x.ao := ⟨_, rfl⟩
  obtain ⟨most, hmo⟩ : ∃ mo, mo = x.most := ⟨_, rfl⟩
  rw [← hS] at c1
  rw [← hK] at c2
  rw [← hV] at c3
  rw [← hln, ← hcp, ← hao] at c4
  rw [← hmo] at c5
  have HC := Lib.hid (And.intro c1 (And.intro c2 (And.intro c3 (And.intro c4 c5))))
  clear c1 c2 c3 c4 c5 hS hK hV hln hcp hao hmo hC
  obtain ⟨i0, z0, p1, p2, p3⟩ : ∃ i z, Tryz.prog.info? 74 = some i ∧ i.zero = some z ∧ i.size = 1 := by
    obtain ⟨i, h1, h2, h3, h4⟩ := info_parts (P := Tryz.prog) (e := 74) (z := .pointer none) (size := 1) (bytes := 8) (by kernel_rfl)
    exact ⟨i, _, h1, h2, h3⟩
  have HI := Lib.hid (And.intro p1 (And.intro p2 p3))
  clear p1 p2 p3
  obtain ⟨Z, hZ⟩ : ∃ Z, Z = brow (List.replicate 32 0) := ⟨_, rfl⟩
  have hnz := neq_zero
  have hzd := zeroHs
  have hZs : Z.size = 32 := by rw [hZ]; rfl
  have hZ1 := brow_one (List.replicate 32 0)
  have hroot : ∀ (w0 : World) (v : Value) (h : NoDict w0 v) (S : ByteArray), Calls Tryz.prog 38 #[v, .string S] w0 fun e w' => e = .returned (.tuple #[.agg Z, .int .i64 1]) ∧ Adds w0 w' := by rw [hZ]; exact fun w0 v h S => DRoot_z h S
  rw [← hZ] at hnz hzd hZ1
  have HZ := Lib.hid (And.intro hzd (And.intro hZs (And.intro hZ1 hroot)))
  clear hzd hZs hZ1 hroot hZ
  go_enter Tryz.func6, Tryz.ntmps6
  go_wp2_with (first
    | fail
    | ((with_reducible show wpList _ _ _ (⟨_, .buildSlice 98 _ _, _, _, _, _⟩ :: _) _ _); refine wpList_buildS2 rfl 98 _ _ rfl 74 i0 z0 (.pointer none) (.pointer (some ⟨w.heap.size + 1, 0, none⟩)) rfl (by first | rfl | simp) Tryz.underlying98 HI.out.1 HI.out.2.1 (by rw [HI.out.2.2]; decide) (by rw [HI.out.2.2]; decide) (by rw [HI.out.2.2]; rfl) (by rw [HI.out.2.2]; rfl) ?_; simp only [Value.cells, List.append_toArray, List.cons_append, List.nil_append]))
  refine at_wld (fun w1 hw1 => ?_)
  have a1 : Adds w w1 := by rw [hw1]; exact (((Ch.refl _ _).alloc _).alloc _).alloc _
  have r1 : w1.heap[w.heap.size]? = some (.cells C 80 (0, 0)) := by rw [hw1]; exact row_alloc (row_alloc (heap_alloc_new _ _) _) _
  have r2 : w1.heap[w.heap.size + 1]? = some (.cells #[.pointer none, .pointer none, .int .i64 0] 97 (0, 0)) := by
    rw [hw1]
    refine row_alloc ?_ _
    have := heap_alloc_new (w.alloc (.cells C 80)) (.cells #[.pointer none, .pointer none, .int .i64 0] 97)
    simpa using this
  have r3 : w1.heap[w.heap.size + 2]? = some (.cells #[.pointer none, .pointer (some ⟨w.heap.size + 1, 0, none⟩)] 74 (0, 0)) := by
    rw [hw1]
    have := heap_alloc_new ((w.alloc (.cells C 80)).alloc (.cells #[.pointer none, .pointer none, .int .i64 0] 97)) (.cells #[.pointer none, .pointer (some ⟨w.heap.size + 1, 0, none⟩)] 74)
    simpa using this
  have H1 := Lib.hid (And.intro a1 (And.intro r1 (And.intro r2 r3)))
  clear a1 r1 r2 r3 hw1
  go_loopg [4, 5, 6, 7, 8, 9, 10, 11, 12, 13, 14, 15, 16, 17, 18] 2 (fun g s4 s5 s6 s7 s8 s9 s10 s11 s12 s13 s14 s15 s16 s17 s18 wr => ∃ k : Nat, s4 = .int .i64 k ∧ k + g = 2 ∧ Adds w1 wr)
  case atStart => exact ⟨0, rfl, rfl, Ch.refl _ _⟩
  case round =>
    obtain ⟨k, rfl, hk, hA⟩ := hrel
    have HA := Lib.hid (And.intro hA (H1.out.1.trans hA (fun _ h => h.elim)))
    have HKG := Lib.hid hk
    by_cases hk2 : k = 2
    · have hx1 : decide ((k : Int) < 2) = false := decide_eq_false (by omega)
      clear hA hk hk2
      go_wp2
      go_ret
      exact ⟨rfl, HA.out.2⟩
    · have hx1 : decide ((k : Int) < 2) = true := decide_eq_true (by omega)
      have hki : (k : Int) < 2 := by omega
      have hkn : k < 2 := by omega
      have hwk : wrap64 ((k : Int) + 1) = (k : Int) + 1 := by unfold wrap64; omega
      obtain ⟨p, hp⟩ : ∃ p, p = (if k = 0 then none else some (⟨w.heap.size + 1, 0, none⟩ : Addr)) := ⟨_, rfl⟩
      have hn : NoDict wr (.pointer p) := by
        rw [hp]
        by_cases h0 : k = 0
        · rw [if_pos h0]; exact .inl rfl
        · rw [if_neg h0]; exact .inr ⟨_, rfl, hA.row H1.out.2.2.1 id⟩
      have hcell : wr.cell? ⟨w.heap.size + 2, k, none⟩ = some (.pointer p) := by
        refine row_cell (hA.row H1.out.2.2.2 id) ?_
        rw [hp]
        match k, hkn with
        | 0, _ => rfl
        | 1, _ => rfl
      have ha := hA.row H1.out.2.1 id
      have HN := Lib.hid hn
      have HAC := Lib.hid ha
      clear hA hk hk2 hp hn ha
      have HD : RowKit.Hid (∀ w2, Adds wr w2 → NoDict w2 (.pointer p) ∧ w2.cell? ⟨w.heap.size, 1, none⟩ = some (.string S) ∧ w2.cell? ⟨w.heap.size, 2, none⟩ = some K ∧ w2.cell? ⟨w.heap.size, 3, none⟩ = some V ∧ w2.cell? ⟨w.heap.size, 4, none⟩ = some (.slice ao ln cp) ∧ w2.cell? ⟨w.heap.size, 5, none⟩ = some (.int .i64 most)) := Lib.hid fun w2 a =>
        ⟨HN.out.adds a, row_cell (a.row HAC.out id) HC.out.1, row_cell (a.row HAC.out id) HC.out.2.1, row_cell (a.row HAC.out id) HC.out.2.2.1, row_cell (a.row HAC.out id) HC.out.2.2.2.1, row_cell (a.row HAC.out id) HC.out.2.2.2.2⟩
      clear HN
      go_upto_region 6 with fail
      obtain ⟨_, d1wr, d2wr, d3wr, d4wr, d5wr⟩ := HD.out wr (Ch.refl _ _)
      go_wp2_with fail
      refine (DDelete_z (HD.out wr (Ch.refl _ _)).1 K).mono ?_; rintro e v0 ⟨rfl, b0⟩
      clear d1wr d2wr d3wr d4wr d5wr
      go_upto_region 7 with fail
      refine at_wld (fun wa hwa => ?_)
      have HWa : RowKit.Hid (Adds wr wa) := Lib.hid (by rw [hwa]; exact Ch.trans (Ch.refl _ _) b0 (fun _ h => h.elim))
      clear hwa b0
      obtain ⟨_, d1wa, d2wa, d3wa, d4wa, d5wa⟩ := HD.out wa HWa.out
      go_wp2_with fail
      refine (DGet_z (HD.out wa HWa.out).1 S K).mono ?_; rintro e v1 ⟨rfl, b1⟩
      clear d1wa d2wa d3wa d4wa d5wa
      go_upto_region 8 with fail
      refine at_wld (fun wb hwb => ?_)
      have HWb : RowKit.Hid (Adds wr wb) := Lib.hid (by rw [hwb]; exact Ch.trans HWa.out b1 (fun _ h => h.elim))
      clear hwb b1
      obtain ⟨_, d1wb, d2wb, d3wb, d4wb, d5wb⟩ := HD.out wb HWb.out
      go_wp2_with fail
      refine (HZ.out.2.2.2 _ _ (HD.out wb HWb.out).1 S).mono ?_; rintro e v2 ⟨rfl, b2⟩
      clear d1wb d2wb d3wb d4wb d5wb
      go_upto_region 9 with (first
        | fail
        | ((with_reducible show wpList _ _ _ (⟨_, .alloc 85, _, _, _, _⟩ :: _) _ _); refine wpList_alloc_is rfl 85 rfl (.agg Z) HZ.out.1 ?_; dsimp only [Value.cells]; try simp only [World.size_alloc])
        | ((with_reducible show wpList _ _ _ (⟨_, .store 85 _ _, _, _, _, _⟩ :: _) _ _); refine wpList_store_part rfl 85 _ _ rfl v2.heap.size 0 Z rfl rfl (heap_alloc_new _ _) (by rw [sizeHs, HZ.out.2.1]) (by rw [HZ.out.2.1]; omega) HZ.out.2.2.1 Z (by rw [splice_all _ _ rfl]) ?_))
      refine at_wld (fun wc hwc => ?_)
      have HWc0 : RowKit.Hid (Adds wr wc ∧ wc.heap[v2.heap.size]? = some (.cells Z 85 (0, 0))) := Lib.hid (by rw [hwc]; exact ⟨((Ch.trans HWb.out b2 (fun _ h => h.elim)).alloc _).setRow (.inr (Ch.trans HWb.out b2 (fun _ h => h.elim)).size) _, row_setRow_same (heap_alloc_new _ _) _⟩)
      have HWc := Lib.hid HWc0.out.1
      clear hwc b2
      obtain ⟨_, d1wc, d2wc, d3wc, d4wc, d5wc⟩ := HD.out wc HWc.out
      go_wp2_with fail
      refine (DLen_z (HD.out wc HWc.out).1 S).mono ?_; rintro e v3 ⟨rfl, rfl⟩
      clear d1wc d2wc d3wc d4wc d5wc
      go_upto_region 10 with fail
      refine at_wld (fun wd hwd => ?_)
      have HWd : RowKit.Hid (Adds wr wd) := Lib.hid (by rw [hwd]; exact HWc.out)
      have HXd : RowKit.Hid (Adds wc wd) := Lib.hid (by rw [hwd]; exact Ch.refl _ _)
      clear hwd
      obtain ⟨_, d1wd, d2wd, d3wd, d4wd, d5wd⟩ := HD.out wd HWd.out
      go_wp2_with fail
      refine (DSome_z (HD.out wd HWd.out).1 S K most).mono ?_; rintro e v4 ⟨rfl, b4⟩
      clear d1wd d2wd d3wd d4wd d5wd
      go_upto_region 11 with fail
      refine at_wld (fun we hwe => ?_)
      have HWe : RowKit.Hid (Adds wr we) := Lib.hid (by rw [hwe]; exact Ch.trans HWd.out b4 (fun _ h => h.elim))
      have HXe : RowKit.Hid (Adds wc we) := Lib.hid (by rw [hwe]; exact Ch.trans HXd.out b4 (fun _ h => h.elim))
      clear hwe b4
      obtain ⟨_, d1we, d2we, d3we, d4we, d5we⟩ := HD.out we HWe.out
      go_wp2_with fail
      refine (DHandle_z (HD.out we HWe.out).1 S).mono ?_; rintro e v5 ⟨rfl, rfl⟩
      clear d1we d2we d3we d4we d5we
      go_upto_region 12 with fail
      refine at_wld (fun wf hwf => ?_)
      have HWf : RowKit.Hid (Adds wr wf) := Lib.hid (by rw [hwf]; exact HWe.out)
      have HXf : RowKit.Hid (Adds wc wf) := Lib.hid (by rw [hwf]; exact HXe.out)
      clear hwf
      obtain ⟨_, d1wf, d2wf, d3wf, d4wf, d5wf⟩ := HD.out wf HWf.out
      go_wp2_with fail
      refine (DPut_z (HD.out wf HWf.out).1 K V).mono ?_; rintro e u0 ⟨rfl, b⟩
      have U0 := Lib.hid (And.intro (HWf.out.trans b (fun _ h => h.elim)) (HXf.out.trans b (fun _ h => h.elim)))
      clear b
      clear d1wf d2wf d3wf d4wf d5wf
      obtain ⟨_, d1u0, d2u0, d3u0, d4u0, d5u0⟩ := HD.out u0 U0.out.1
      go_wp2_with fail
      refine (DBatch_z (HD.out u0 U0.out.1).1 ao ln cp).mono ?_; rintro e u1 ⟨rfl, rfl⟩
      go_wp2_with fail
      refine (DSnapshot_z (HD.out u0 U0.out.1).1 S).mono ?_; rintro e u2 ⟨rfl, b⟩
      have U2 := Lib.hid (And.intro (U0.out.1.trans b (fun _ h => h.elim)) (U0.out.2.trans b (fun _ h => h.elim)))
      clear b
      clear d1u0 d2u0 d3u0 d4u0 d5u0
      obtain ⟨_, d1u2, d2u2, d3u2, d4u2, d5u2⟩ := HD.out u2 U2.out.1
      have HR := Lib.hid (U2.out.2.row HWc0.out.2 id)
      go_wp2_with fail
      refine (DRollback_z (HD.out u2 U2.out.1).1 S).mono ?_; rintro e u3 ⟨rfl, rfl⟩
      go_wp2_with fail
      refine (DPrune_z (HD.out u2 U2.out.1).1 S).mono ?_; rintro e u3 ⟨rfl, rfl⟩
      go_wp2_with (first
        | fail
        | ((with_reducible show wpList _ _ _ (⟨_, .load 85 _, _, _, _, _⟩ :: _) _ _); refine wpList_gload_part (by first | rfl | (simp [Region.wanted]; done)) 85 _ rfl v2.heap.size 0 rfl HR.out Tryz.underlying85 rfl sizeHs (by rw [HZ.out.2.1]; omega) Z (by have := HZ.out.2.1; simp [← this]) ?_))
      have hn4 : NoDict u2 (.pointer p) := (HD.out u2 U2.out.1).1
      go_wp2_with fail
      refine (DNames_z hn4).mono ?_; rintro e u4 ⟨rfl, rfl⟩
      go_wp2_with fail
      refine (DOccupied_z hn4).mono ?_; rintro e u4 ⟨rfl, rfl⟩
      go_wp2_with fail
      refine (DRoom_z hn4).mono ?_; rintro e u4 ⟨rfl, rfl⟩
      go_wp2_with fail
      refine (DStore_z hn4).mono ?_; rintro e u4 ⟨rfl, rfl⟩
      go_wp2_with fail
      go_roundg (gk - 1)
      case measure => have := HKG.out; omega
      case rel => exact ⟨k + 1, by simp, by have := HKG.out; omega, HA.out.1.trans U2.out.1 (fun _ h => h.elim)⟩
end Go.Proofs.YtooijgcildbnlaaGreat.Law15
