/- For every room and every acts the law SlabCounts returns true: the walk. -/
import Derived.Test.YtdgdpbmaalcedaaCountsL
import Derived.Test.YtdgdpbmaalcedaaKnown6
import Derived.Deep.CutRange
import Derived.Deep.DeepCutAuto
import Derived.Deep.CutBlock
import Derived.Test.YtdgdpbmaalcedaaPlan
namespace Go.Proofs.Ytdgdpbmaalcedaa.Cnt
open Go Go.RowKit Go.Maps
set_option linter.unusedVariables false

/-- The acts that came in: at every index three numbers. -/
def ActsAt (w : World) (ao : Option Addr) (len : Nat) : Prop := ∀ i, i < len → ∃ (g off : Nat) (kd sl x : Int), ao = some ⟨g, off, none⟩ ∧ w.cell? ⟨g, off + i * 3, none⟩ = some (.int .i64 kd) ∧
  w.cell? ⟨g, off + i * 3 + 1, none⟩ = some (.int .i64 sl) ∧ w.cell? ⟨g, off + i * 3 + 2, none⟩ = some (.int .i64 x) ∧ (Lit.int .i64 sl).wf = true

set_option maxHeartbeats 800000 in
set_option maxRecDepth 100000 in
theorem bad (room : Int) (h : room < 1 ∨ 65536 < room) (v : Value) (w : World) : Calls Try.prog 4 #[.int .i64 room, v] w fun e w' => e = .returned (.bool true) ∧ SlabA.Adds w w' := by
  go_enter Try.func4, Try.ntmps4
  go_wp2_with fail
  refine (awake6 w).mono ?_; rintro e w1 ⟨rfl, h1⟩
  go_wp2_with fail
  refine (SlabA.New_bad room _ h).mono ?_; rintro e w2 ⟨rfl, rfl⟩
  go_wp2
  go_ret
  exact ⟨rfl, h1⟩

theorem Aside.intro' {p : Prop} (h : p) : Aside p := h

set_option maxHeartbeats 1600000 in
set_option maxRecDepth 100000 in
theorem good (n : Nat) (hn1 : 1 ≤ n) (hn2 : n ≤ 65536) (ao : Option Addr) (len cap : Nat) (w : World) (ha : ActsAt w ao len) :
    Calls Try.prog 4 #[.int .i64 n, .slice ao len cap] w fun e w' => e = .returned (.bool true) ∧ SlabA.Adds w w' := by
  by_cases hl : 400 < len
  · go_enter Try.func4, Try.ntmps4
    go_wp2_with fail
    refine (awake6 w).mono ?_; rintro e w1 ⟨rfl, h1⟩
    go_wp2_with fail
    refine (SlabA.New_ok n w1 hn1 hn2).mono ?_; rintro e w2 ⟨rfl, hb, a1, -⟩
    go_wp2
    go_ret
    exact ⟨rfl, h1.trans a1 (fun _ h => h.elim)⟩
  have hmm := @run_makeMap Try.prog
  go_enter Try.func4, Try.ntmps4
  go_wp2_with fail
  refine (awake6 w).mono ?_; rintro e w1 ⟨rfl, h1⟩
  go_wp2_with fail
  refine (SlabA.New_ok n w1 hn1 hn2).mono ?_; rintro e w2 ⟨rfl, hb, a1, -⟩
  have ha2 : SlabA.Adds w w2 := h1.trans a1 (fun _ h => h.elim)
  obtain ⟨A, hA⟩ : ∃ A, A = w1.heap.size := ⟨_, rfl⟩
  rw [← hA] at hb ⊢
  have HA : Aside (A = w1.heap.size) := hA
  have HL : Aside (len ≤ 400) := Nat.le_of_not_lt hl
  have hlen : len ≤ 400 := HL.out
  clear hl hA
  go_wp2
  have hM0 : Mem w A (w2.heap.size + 1) w2.heap.size 0 [] ((w2.alloc (.map #[] 0)).alloc (.map #[] 0)) ⟨n, [], []⟩ (.map []) (.map []) := by
    have hs1 := h1.size
    have hs2 := a1.size
    have hlt : A < w2.heap.size := by
      obtain ⟨_, _, _, _, _, _, hF, _, _, hall⟩ := hb
      exact hall A hF
    have hAe := HA.out
    have m1 := World.ownsMap_made (w2.alloc (.map #[] 0)) Try.prog 3 elemC
    rw [show (w2.alloc (.map #[] 0)).heap.size = w2.heap.size + 1 by simp] at m1
    exact ⟨fun j => j = A, hb.keep (((Ch.refl (fun _ => False) _).alloc _).alloc _) (fun _ _ h => h), fun j hj => by subst hj; omega, fun h => by omega, fun h => by omega, fun p hp => (by cases hp),
      m1, (World.ownsMap_made w2 Try.prog 3 selfElem).alloc _, by omega, by omega, by omega, (ha2.alloc _).alloc _⟩
  clear hmm
  go_loopg [10] len (fun g i wr => ∃ (k : Nat) (σ : SlabSt) (Dc Dt : DataW Value), k ≤ len ∧ g = len - k ∧ i = .int .i64 k ∧ Mem w A (w2.heap.size + 1) w2.heap.size (2 * k) [] wr σ Dc Dt ∧ Tied σ Dc Dt k ∧ σ.room = n)
  case atStart => exact ⟨0, _, _, _, Nat.zero_le _, rfl, rfl, hM0, Tied.start n, rfl⟩
  case round =>
    obtain ⟨k, σ, Dc, Dt, hk, rfl, rfl, hM, hT, hroom⟩ := hrel
    have HT : Aside (Tied σ Dc Dt k ∧ σ.room = n) := ⟨hT, hroom⟩
    have HM : Aside (Mem w A (w2.heap.size + 1) w2.heap.size (2 * k) [] wr σ Dc Dt) := hM
    clear hT hroom hM hM0
    by_cases hkl : k < len
    · obtain ⟨g, off, kd, sl, x, rfl, c0, c1, c2, hsl⟩ := ha k hkl
      have d0 := cell_stays HM.out.adds c0 id
      have d1 := cell_stays HM.out.adds c1 id
      have d2 := cell_stays HM.out.adds c2 id
      have HS : Aside ((Lit.int .i64 sl).wf = true) := hsl
      clear hsl c0 c1 c2 ha
      have hki : (k : Int) < (len : Int) := by omega
      go_upto_block 2 with fail
      have HMa : Aside (Mem w A (w2.heap.size + 1) w2.heap.size (2 * k) [(wr.heap.size, #[.int .i64 kd, .int .i64 sl, .int .i64 x])] (wr.alloc (.cells #[.int .i64 kd, .int .i64 sl, .int .i64 x] 40)) σ Dc Dt) :=
        HM.out.withRow ((Ch.refl _ _).alloc _) (heap_alloc_new _ _) (Nat.le_refl _)
      clear HM d0 d1 d2
      go_cut [12, 13, 14, 15, 48, 94, 117] (fun s12 s13 s14 s15 s48 s94 s117 wx => ∃ (σ' : SlabSt) (Dc' Dt' : DataW Value), Mem w A (w2.heap.size + 1) w2.heap.size (2 * (k + 1)) [(wr.heap.size, #[.int .i64 kd, .int .i64 sl, .int .i64 x])] wx σ' Dc' Dt' ∧ Tied σ' Dc' Dt' (k + 1) ∧ σ'.room = n)
      case first =>
        by_cases h0 : kd = 0
        · subst h0
          by_cases hu : σ.used = σ.room
          · have hc := Take_full_mem HMa.out (actV 0 sl x) (act_ok _ _ _) hu
            have hln : ∀ w3, Mem w A (w2.heap.size + 1) w2.heap.size (2 * k) [(wr.heap.size, #[.int .i64 0, .int .i64 sl, .int .i64 x])] w3 σ Dc Dt → ∀ ty, (Builtin.len_ #[42] ty #[.map (some (w2.heap.size + 1))]).run Try.prog w3 = .ok (.int .i64 n) w3 := fun w3 hm ty => by
              rw [lenC hm HT.out.1 ty, hu, HT.out.2]
            have HU : Aside (σ.used = σ.room) := hu
            clear hu
            go_wp2_with fail
            refine hc.mono ?_; rintro e w3 ⟨rfl, hm3⟩
            have hl3 := hln w3 hm3
            clear hln hc
            have HM3 : Aside (Mem w A (w2.heap.size + 1) w2.heap.size (2 * k) [(wr.heap.size, #[.int .i64 0, .int .i64 sl, .int .i64 x])] w3 σ Dc Dt) := hm3
            clear hm3
            go_wp2
            go_meet
            case rel => exact ⟨σ, Dc, Dt, HM3.out.mono (by omega), HT.out.1.later, HT.out.2⟩
          · obtain ⟨s, σ', n0, n1, n2, n3, n4, hc⟩ := Take_new HMa.out HT.out.1 0 sl x hu
            have hnr : s ≤ n := by rw [← HT.out.2]; exact n2
            have HN : Aside (σ.get? s = none ∧ 1 ≤ s ∧ s ≤ n ∧ σ'.room = σ.room ∧ Tied σ' (Dc.put (ky s) (num 1)) (Dt.put (ky s) (.held (actV 0 sl x))) (k + 1)) := ⟨n0, n1, hnr, n3, n4⟩
            have hwf : (Lit.int .i64 (s : Int)).wf = true := WalkArith.wf_i64 (by omega)
            have hlk : ∀ w3, Mem w A (w2.heap.size + 1) w2.heap.size (2 * k) [(wr.heap.size, #[.int .i64 0, .int .i64 sl, .int .i64 x])] w3 σ' Dc Dt → (Instr.lookup 42 (.map (some (w2.heap.size + 1))) (.int .i64 (s : Int)) false).run Try.prog w3 = .ok (.int .i64 0) w3 := fun w3 hm => by
              rw [lookC hm HT.out.1 hwf, SlabSt.count_none HN.out.1]; rfl
            clear n0 n2 n3 n4 hu
            have hz1 : ¬ ((s : Int) < 1) := by omega
            have hz2 : ¬ ((n : Int) < (s : Int)) := by omega
            go_wp2_with fail
            refine hc.mono ?_; rintro e w3 ⟨rfl, hm3⟩
            have hl3 := hlk w3 hm3
            have hrow := hm3.row
            have e0 := row_cell hrow (i := 0) rfl
            have e1 := row_cell hrow (i := 1) rfl
            have e2 := row_cell hrow (i := 2) rfl
            clear hlk hc hrow
            have HM3 : Aside (Mem w A (w2.heap.size + 1) w2.heap.size (2 * k) [(wr.heap.size, #[.int .i64 0, .int .i64 sl, .int .i64 x])] w3 σ' Dc Dt) := hm3
            have HW : Aside ((Lit.int .i64 (s : Int)).wf = true) := hwf
            have hk2 : 2 * k < 1000 := by omega
            clear hm3 hwf n1 hnr
            go_wp2_with (first
              | (at_mapUpdate; refine wp_putT HM3.out hk2 rfl _ _ _ rfl rfl s (actV 0 sl x) rfl rfl HW.out ?_; intro w4 hm4; have HM4 := Aside.intro' hm4; clear hm4)
              | (at_mapUpdate; refine wp_putC HM4.out (by omega) rfl _ _ _ rfl rfl s 1 rfl rfl HW.out rfl ?_; intro w5 hm5; have HM5 := Aside.intro' hm5; clear hm5))
            go_meet
            case rel => exact ⟨σ', _, _, HM5.out.mono (by omega), HN.out.2.2.2.2, HN.out.2.2.2.1.trans HT.out.2⟩
        · by_cases h1 : kd = 1
          · subst h1
            have HMd : Aside (Mem w A (w2.heap.size + 1) w2.heap.size (2 * k) [(wr.heap.size, #[.int .i64 1, .int .i64 sl, .int .i64 x])] (wr.alloc (.cells #[.int .i64 1, .int .i64 sl, .int .i64 x] 40)).drew σ Dc Dt) := HMa.out.later ((Ch.refl _ _).drew)
            cases hs : σ.get? sl with
            | none =>
              have hc := Hold_no HMd.out hs
              have hlk : ∀ w3, Mem w A (w2.heap.size + 1) w2.heap.size (2 * k) [(wr.heap.size, #[.int .i64 1, .int .i64 sl, .int .i64 x])] w3 σ Dc Dt → (Instr.lookup 42 (.map (some (w2.heap.size + 1))) (.int .i64 sl) false).run Try.prog w3 = .ok (.int .i64 0) w3 := fun w3 hm => by
                rw [lookC hm HT.out.1 HS.out, SlabSt.count_none hs]; rfl
              have HC := Aside.intro' hc
              have HK := Aside.intro' hlk
              have HKd := hlk _ HMd.out
              clear hc hlk hs
              go_upto_region 18 with fail
              refine wp_region_plan (fun w0 => w0.cell? ⟨wr.heap.size, 1, none⟩ = some (.int .i64 sl) ∧ (Instr.lookup 42 (.map (some (w2.heap.size + 1))) (.int .i64 sl) false).run Try.prog w0 = .ok (.int .i64 0) w0) 11 [(0, false), (1, false), (2, false), (5, false), (6, false), (7, false), (8, false), (9, false), (3, true), (4, false), (10, false)] (by kernel_rfl) (by kernel_rfl) ?_ ?_
              · exact ⟨row_cell HMd.out.row rfl, HKd⟩
              iterate 8 refine plan_look rfl rfl (fun w0 hS => (by obtain ⟨s1, s2⟩ := hS; go_simp; try rfl)) ?_
              simp only [Act.put, List.setIfInBounds_toArray, List.set_cons_succ, List.set_cons_zero]
              refine plan_do rfl ?_
              go_wp2_with fail
              refine HC.out.mono ?_; rintro e w3 ⟨rfl, hm3⟩
              have HM3 := Aside.intro' hm3
              clear hm3
              dsimp only
              go_step
              refine wpList_nil ?_
              change _ ∧ _
              refine ⟨⟨row_cell HM3.out.row rfl, HK.out _ HM3.out⟩, ?_⟩
              try simp only [Act.put, List.setIfInBounds_toArray, List.set_cons_succ, List.set_cons_zero]
              iterate 2 refine plan_look rfl rfl (fun w0 hS => (by obtain ⟨s1, s2⟩ := hS; go_simp; try rfl)) ?_
              refine plan_end ?_
              try simp only [List.drop_succ_cons, List.drop_zero, Act.put, List.setIfInBounds_toArray, List.set_cons_succ, List.set_cons_zero]
              refine wpList_nil ?_
              refine NoPanic.normal ?_
              have hl3 := HK.out w3 HM3.out
              have hrow := HM3.out.row
              have e0 := row_cell hrow (i := 0) rfl
              have e1 := row_cell hrow (i := 1) rfl
              have e2 := row_cell hrow (i := 2) rfl
              clear hrow
              go_wp2
              go_meet
              case rel => exact ⟨σ, Dc, Dt, HM3.out.mono (by omega), HT.out.1.later, HT.out.2⟩
            | some s =>
              obtain ⟨σ', n1, n2, hc⟩ := Hold_yes HMd.out HT.out.1 (by omega) hs
              obtain ⟨v, c⟩ := s
              have hc4 : c ≤ 400 := Nat.le_trans (HT.out.1.few _ _ hs) (by omega)
              have hc0 : c ≠ 0 := (SlabSt.get?_some hs).elim fun _ h => h.2.2.1
              have hlk : ∀ w3 σ1, Mem w A (w2.heap.size + 1) w2.heap.size (2 * k) [(wr.heap.size, #[.int .i64 1, .int .i64 sl, .int .i64 x])] w3 σ1 Dc Dt → (Instr.lookup 42 (.map (some (w2.heap.size + 1))) (.int .i64 sl) false).run Try.prog w3 = .ok (.int .i64 c) w3 := fun w3 σ1 hm => by
                rw [lookC hm HT.out.1 HS.out, SlabSt.count_some hs]
              have HC := Aside.intro' hc
              have HK := Aside.intro' (fun w3 => hlk w3 σ')
              have HKd := hlk _ _ HMd.out
              have HN := Aside.intro' (And.intro n1 n2)
              clear hc hlk hs n1 n2
              have hcp : 0 < (c : Int) := by omega
              have hcq : 0 < c := by omega
              have hc4' : (c : Int) ≤ 400 := by omega
              have hk2 : 2 * k < 1000 := by omega
              go_upto_region 18 with fail
              refine wp_region_plan (fun w0 => w0.cell? ⟨wr.heap.size, 1, none⟩ = some (.int .i64 sl) ∧ (Instr.lookup 42 (.map (some (w2.heap.size + 1))) (.int .i64 sl) false).run Try.prog w0 = .ok (.int .i64 c) w0) 11 [(0, false), (1, false), (2, false), (5, false), (6, false), (7, false), (8, false), (9, false), (3, true), (4, false), (10, false)] (by kernel_rfl) (by kernel_rfl) ?_ ?_
              · exact ⟨row_cell HMd.out.row rfl, HKd⟩
              iterate 8 refine plan_look rfl rfl (fun w0 hS => (by obtain ⟨s1, s2⟩ := hS; go_simp; try rfl)) ?_
              simp only [Act.put, List.setIfInBounds_toArray, List.set_cons_succ, List.set_cons_zero]
              refine plan_do rfl ?_
              go_wp2_with fail
              refine HC.out.mono ?_; rintro e w3 ⟨rfl, hm3⟩
              have HM3 := Aside.intro' hm3
              clear hm3
              dsimp only
              go_step
              refine wpList_nil ?_
              change _ ∧ _
              refine ⟨⟨row_cell HM3.out.row rfl, HK.out _ HM3.out⟩, ?_⟩
              try simp only [Act.put, List.setIfInBounds_toArray, List.set_cons_succ, List.set_cons_zero]
              iterate 2 refine plan_look rfl rfl (fun w0 hS => (by obtain ⟨s1, s2⟩ := hS; go_simp; try rfl)) ?_
              refine plan_end ?_
              try simp only [List.drop_succ_cons, List.drop_zero, Act.put, List.setIfInBounds_toArray, List.set_cons_succ, List.set_cons_zero]
              refine wpList_nil ?_
              refine NoPanic.normal ?_
              have hl3 := HK.out w3 HM3.out
              have hrow := HM3.out.row
              have e0 := row_cell hrow (i := 0) rfl
              have e1 := row_cell hrow (i := 1) rfl
              have e2 := row_cell hrow (i := 2) rfl
              clear hrow
              go_wp2_with (first
                | (at_mapUpdate; refine wp_putC HM3.out hk2 rfl _ _ _ rfl rfl sl (c + 1 : Nat) rfl rfl HS.out (WalkArith.wf_i64 (by omega)) ?_; intro w5 hm5; have HM5 := Aside.intro' hm5; clear hm5))
              go_meet
              case rel => exact ⟨σ', _, _, HM5.out.mono (by omega), HN.out.2, HN.out.1.trans HT.out.2⟩
          · by_cases h2 : kd = 2
            · subst h2
              cases hs : σ.get? sl with
              | none =>
                have hc := Drop_no HMa.out hs
                have hlk : ∀ w3, Mem w A (w2.heap.size + 1) w2.heap.size (2 * k) [(wr.heap.size, #[.int .i64 2, .int .i64 sl, .int .i64 x])] w3 σ Dc Dt → (Instr.lookup 42 (.map (some (w2.heap.size + 1))) (.int .i64 sl) false).run Try.prog w3 = .ok (.int .i64 0) w3 := fun w3 hm => by
                  rw [lookC hm HT.out.1 HS.out, SlabSt.count_none hs]; rfl
                have HK := Aside.intro' hlk
                have HD := Aside.intro' (HT.out.1.del_none sl hs)
                clear hlk hs
                go_wp2_with fail
                refine hc.mono ?_; rintro e w3 ⟨rfl, hm3⟩
                clear hc
                have HM3 := Aside.intro' hm3
                clear hm3
                have hl3 := HK.out w3 HM3.out
                have hrow := HM3.out.row
                have e0 := row_cell hrow (i := 0) rfl
                have e1 := row_cell hrow (i := 1) rfl
                have e2 := row_cell hrow (i := 2) rfl
                clear hrow
                go_wp2_with (first
                  | (at_delete; refine wp_delC HM3.out rfl _ _ rfl rfl sl rfl HS.out ?_; intro w5 hm5; have HM5 := Aside.intro' hm5; clear hm5))
                go_meet
                case rel => exact ⟨σ, Dc, Dt, by have h5 := HM5.out; rw [HD.out] at h5; exact h5.mono (by omega), HT.out.1.later, HT.out.2⟩
              | some s =>
                obtain ⟨v, c⟩ := s
                have hc4 : c ≤ 400 := Nat.le_trans (HT.out.1.few _ _ hs) (by omega)
                have hc0 : c ≠ 0 := (SlabSt.get?_some hs).elim fun _ h => h.2.2.1
                have hk2 : 2 * k < 1000 := by omega
                by_cases h1c : c = 1
                · subst h1c
                  obtain ⟨σ', n1, n2, hc⟩ := Drop_free HMa.out HT.out.1 hs rfl
                  have hlk : ∀ w3, Mem w A (w2.heap.size + 1) w2.heap.size (2 * k) [(wr.heap.size, #[.int .i64 2, .int .i64 sl, .int .i64 x])] w3 σ' Dc Dt → (Instr.lookup 42 (.map (some (w2.heap.size + 1))) (.int .i64 sl) false).run Try.prog w3 = .ok (.int .i64 1) w3 := fun w3 hm => by
                    rw [lookC hm HT.out.1 HS.out, SlabSt.count_some hs]; rfl
                  have HK := Aside.intro' hlk
                  have HN := Aside.intro' (And.intro n1 n2)
                  clear hlk hs n1 n2
                  go_wp2_with fail
                  refine hc.mono ?_; rintro e w3 ⟨rfl, hm3⟩
                  clear hc
                  have HM3 := Aside.intro' hm3
                  clear hm3
                  have hl3 := HK.out w3 HM3.out
                  have hrow := HM3.out.row
                  have e0 := row_cell hrow (i := 0) rfl
                  have e1 := row_cell hrow (i := 1) rfl
                  have e2 := row_cell hrow (i := 2) rfl
                  clear hrow
                  go_wp2_with (first
                    | (at_delete; refine wp_delC HM3.out rfl _ _ rfl rfl sl rfl HS.out ?_; intro w5 hm5; have HM5 := Aside.intro' hm5; clear hm5))
                  go_meet
                  case rel => exact ⟨σ', _, _, HM5.out.mono (by omega), HN.out.2, HN.out.1.trans HT.out.2⟩
                · obtain ⟨σ', n1, n2, hc⟩ := Drop_keep HMa.out HT.out.1 hs h1c
                  have hlk : ∀ w3, Mem w A (w2.heap.size + 1) w2.heap.size (2 * k) [(wr.heap.size, #[.int .i64 2, .int .i64 sl, .int .i64 x])] w3 σ' Dc Dt → (Instr.lookup 42 (.map (some (w2.heap.size + 1))) (.int .i64 sl) false).run Try.prog w3 = .ok (.int .i64 c) w3 := fun w3 hm => by
                    rw [lookC hm HT.out.1 HS.out, SlabSt.count_some hs]
                  have HK := Aside.intro' hlk
                  have HN := Aside.intro' (And.intro n1 n2)
                  clear hlk hs n1 n2
                  have hcp : 1 < (c : Int) := by omega
                  have hcq : 1 < c := by omega
                  have hcr : 0 < (c : Int) := by omega
                  have hcs : 0 < c := by omega
                  have hct : ¬ ((c : Int) = 1) := by omega
                  have hc4' : (c : Int) ≤ 400 := by omega
                  have hcv : (c : Int) - 1 = ((c - 1 : Nat) : Int) := by omega
                  have HCV := Aside.intro' hcv
                  clear hcv
                  go_wp2_with fail
                  refine hc.mono ?_; rintro e w3 ⟨rfl, hm3⟩
                  clear hc
                  have HM3 := Aside.intro' hm3
                  clear hm3
                  have hl3 := HK.out w3 HM3.out
                  have hrow := HM3.out.row
                  have e0 := row_cell hrow (i := 0) rfl
                  have e1 := row_cell hrow (i := 1) rfl
                  have e2 := row_cell hrow (i := 2) rfl
                  clear hrow
                  go_wp2_with (first
                    | (at_mapUpdate; refine wp_putC HM3.out hk2 rfl _ _ _ rfl rfl sl (c - 1 : Nat) rfl (congrArg (Value.int .i64) HCV.out) HS.out (WalkArith.wf_i64 (by omega)) ?_; intro w5 hm5; have HM5 := Aside.intro' hm5; clear hm5))
                  go_meet
                  case rel => exact ⟨σ', _, _, HM5.out.mono (by omega), HN.out.2, HN.out.1.trans HT.out.2⟩
            · go_wp2
              go_meet
              case rel => exact ⟨σ, Dc, Dt, HMa.out.mono (by omega), HT.out.1.later, HT.out.2⟩
      case rest =>
        obtain ⟨σ', Dc', Dt', hM', hT', hr'⟩ := hcut
        have HM5 := Aside.intro' hM'
        have HT5 := Aside.intro' (And.intro hT' hr')
        have HMd : Aside (Mem w A (w2.heap.size + 1) w2.heap.size (2 * (k + 1)) [(wr.heap.size, #[.int .i64 kd, .int .i64 sl, .int .i64 x])] wc.drew σ' Dc' Dt') := HM5.out.later ((Ch.refl _ _).drew)
        have e1 : wc.cell? ⟨wr.heap.size, 1, none⟩ = some (.int .i64 sl) := row_cell HM5.out.row rfl
        have hlk := lookC HMd.out HT5.out.1 HS.out
        have hln := lenC HMd.out HT5.out.1
        clear hM' hT' hr' HMa HT
        go_upto_region 29 with fail
        refine wp_region_plan (fun w0 => w0 = wc.drew) 16 [(0, false), (2, false), (1, true), (3, false), (4, false), (5, false), (6, false), (7, false), (8, false), (10, false), (11, false), (12, false), (13, false), (9, true), (14, false), (15, false)] (by kernel_rfl) (by kernel_rfl) rfl ?_
        iterate 2 refine plan_look rfl rfl (fun w0 hS => (by subst hS; go_simp; try rfl)) ?_
        simp only [Act.put, List.setIfInBounds_toArray, List.set_cons_succ, List.set_cons_zero]
        refine plan_do rfl ?_
        go_wp2_with fail
        refine (Len_mem HMd.out).mono ?_; rintro e w3 ⟨rfl, rfl⟩
        dsimp only
        go_step
        refine wpList_nil ?_
        change _ ∧ _
        refine ⟨rfl, ?_⟩
        try simp only [Act.put, List.setIfInBounds_toArray, List.set_cons_succ, List.set_cons_zero]
        refine plan_look rfl rfl (fun w0 hS => (by subst hS; go_simp; try rfl)) ?_
        refine plan_look (v := .bool false) rfl rfl (fun w0 hS => (by subst hS; go_simp; try rfl)) ?_
        simp only [Act.put, List.setIfInBounds_toArray, List.set_cons_succ, List.set_cons_zero]
        refine plan_look (v := .bool false) rfl rfl (fun w0 hS => (by subst hS; go_simp; try rfl)) ?_
        simp only [Act.put, List.setIfInBounds_toArray, List.set_cons_succ, List.set_cons_zero]
        iterate 3 refine plan_look rfl rfl (fun w0 hS => (by subst hS; go_simp; try rfl)) ?_
        simp only [Act.put, List.setIfInBounds_toArray, List.set_cons_succ, List.set_cons_zero]
        iterate 4 refine plan_look rfl rfl (fun w0 hS => (by subst hS; go_simp; try rfl)) ?_
        simp only [Act.put, List.setIfInBounds_toArray, List.set_cons_succ, List.set_cons_zero]
        refine plan_do rfl ?_
        go_wp2_with fail
        refine (Count_mem HMd.out sl).mono ?_; rintro e w3 ⟨rfl, rfl⟩
        dsimp only
        go_step
        refine wpList_nil ?_
        change _ ∧ _
        refine ⟨rfl, ?_⟩
        try simp only [Act.put, List.setIfInBounds_toArray, List.set_cons_succ, List.set_cons_zero]
        iterate 2 refine plan_look rfl rfl (fun w0 hS => (by subst hS; go_simp; try rfl)) ?_
        refine plan_end ?_
        try simp only [List.drop_succ_cons, List.drop_zero, Act.put, List.setIfInBounds_toArray, List.set_cons_succ, List.set_cons_zero]
        refine wpList_nil ?_
        refine NoPanic.normal ?_
        go_wp2
        go_roundg (len - (k + 1))
        case measure => omega
        case rel => exact ⟨k + 1, σ', Dc', Dt', by omega, rfl, by go_num, HMd.out.bare, HT5.out.1, HT5.out.2⟩
    · obtain rfl : k = len := by omega
      have hki : ¬ ((k : Int) < (k : Int)) := by omega
      have HAd := HM.out.adds
      go_wp2_with (first
        | (at_range; refine wpList_range_own _ rfl _ 42 rfl 3 3 law Try.underlying42 elemC (w2.heap.size + 1) (2 * k) Dc rfl HM.out.maps.1 ?_; intro w0 hrg0 hg0 hs0)
        | go_in)
      try go_frame
      have hA0 : SlabA.Adds wr w0 := (Ch.refl _ _).grown hg0 (fun _ h => by cases h)
      go_loopg [16] (Maps.size Dc) (fun g s16 wx => ∃ left : Lit → Bool, wx.ranges Try.prog 3 elemC (w2.heap.size + 1) wr.heap.size (2 * k) Dc left g ∧ SlabA.Adds wr wx)
      case atStart => exact ⟨_, hrg0, hA0⟩
      case round =>
        obtain ⟨left, hrg, hAx⟩ := hrel
        clear hrg0 hg0 hs0 hA0
        go_wp2_with (first
          | (at_next; refine wpList_next_ranges_ii _ rfl _ rfl 3 3 .i64 .i64 law Try.underlying3 Try.underlying3 (w2.heap.size + 1) _ (2 * k) Dc left _ rfl hrg ?_ ?_)
          | go_in)
        · intro _ hl0
          go_wp2
          go_ret
          exact ⟨rfl, HAd.trans hAx (fun _ h => h.elim)⟩
        · intro x c w1 cnt1 hwx hwc hlx hat hrg1 hlt hg1 hz1 hen
          have hA1 := hAx.grown hg1 (fun j hj => Or.inr (by cases hj; exact Nat.le_refl _))
          have hM1 := HM.out.later hA1
          obtain ⟨s, hs⟩ : ∃ s, σ.get? x = some s := by
            have h1 := HT.out.1.has x
            rw [Maps.has_true_of_atKey (k := ky x) hat] at h1
            exact Option.isSome_iff_exists.1 h1.symm
          obtain rfl : c = (s.2 : Int) := by
            have h1 := HT.out.1.cnt x
            rw [hat, SlabSt.count_some hs] at h1
            cases h1; rfl
          obtain ⟨p, q, r, hs1⟩ := HT.out.1.acts x s hs
          have hget := Get_mem hM1 x
          have hg : SlabA.got σ x = actV p q r ∧ SlabA.gotErr σ x = 0 := by simp [SlabA.got, SlabA.gotErr, hs, hs1]
          rw [hg.1, hg.2] at hget
          have hlook : ∀ w5, SlabA.Adds w1 w5 → (Instr.lookup 41 (.map (some w2.heap.size)) (.int .i64 x) false).run Try.prog w5 = .ok (actV p q r) w5 := fun w5 ha5 => by
            rw [lookT (hM1.later ha5) HT.out.1 hs hwx, hs1]
          have hcount : ∀ w5, SlabA.Adds w1 w5 → Calls Try.prog 22 #[.pointer (some ⟨A, 0, none⟩), .int .i64 x] w5 fun e w' => e = .returned (.int .i64 (s.2 : Int)) ∧ w5 = w' := fun w5 ha5 => by
            have := Count_mem (hM1.later ha5) x
            rwa [SlabSt.count_some hs] at this
          obtain ⟨v, c⟩ := s
          have HGET := Aside.intro' hget
          have HLOOK := Aside.intro' hlook
          have HCOUNT := Aside.intro' hcount
          have HR1 := Aside.intro' hrg1
          have HLT := Aside.intro' hlt
          clear hget hlook hcount hrg1 hrg hs hs1 hg hat hlx hlt hg1 hz1
          go_wp2_with fail
          refine HGET.out.mono ?_; rintro e w5 ⟨rfl, hA5⟩
          have hlk := HLOOK.out _ (hA5.alloc (.cells #[.int .i64 p, .int .i64 q, .int .i64 r] 40))
          go_wp2_with fail
          refine (HCOUNT.out _ (hA5.alloc (.cells #[.int .i64 p, .int .i64 q, .int .i64 r] 40))).mono ?_; rintro e w6 ⟨rfl, rfl⟩
          go_wp2
          go_roundg cnt1
          case measure => exact HLT.out
          case rel => exact ⟨_, (HR1.out.kept (row := none) ⟨hA5.os, hA5.tape, hA5.output, hA5.size, fun i hi _ => hA5.block i hi id⟩ (by simp) (by simp)).alloc _, hA1.trans (hA5.alloc _) (fun _ h => h.elim)⟩
end Go.Proofs.Ytdgdpbmaalcedaa.Cnt
