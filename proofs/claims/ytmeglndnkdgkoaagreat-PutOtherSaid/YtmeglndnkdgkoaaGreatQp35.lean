/- Proved contracts and plain laws of the layers below, several parts in one text. -/
import Derived.Test.YtmeglndnkdgkoaaGreatQp34
import Derived.Test.YtmeglndnkdgkoaaGreatQp32
namespace Go.Proofs.YtmeglndnkdgkoaaGreat.Store
open Go Go.RowKit Go.Proofs.YtmeglndnkdgkoaaGreat Go.Proofs.YtmeglndnkdgkoaaGreat.ShaW Go.Proofs.YtmeglndnkdgkoaaGreat.Path Go.Proofs.YtmeglndnkdgkoaaGreat.Law9
set_option maxHeartbeats 3200000
set_option linter.unusedVariables false
section
variable {w0 w w' : World} {s b : Nat} {F G : Nat → Prop} {σ : SlabSt Nd}
theorem ints_cell {w : World} {b1 n : Nat} {ao : Option Addr} {c : Nat} {l : List Nat} (h : w.ownsRow b1 3 1 (.slice ao n c) n (ints l)) {k : Nat} (hk : k < n) : ∃ g x, ao = some ⟨g, 0, none⟩ ∧ l[k]? = some x ∧ w.cell? ⟨g, k, none⟩ = some (.int .i64 (x : Nat)) := by
  have hl : (ints l).length = n * 1 := h.1
  rw [show (ints l).length = l.length by simp [ints]] at hl
  obtain ⟨x, hx⟩ : ∃ x, l[k]? = some x := ⟨_, List.getElem?_eq_getElem (by omega)⟩
  obtain ⟨g, cap, cur, e, hg, h1, h2, h3, h4⟩ := owns_block h (by omega)
  injection e with e1 _ _
  refine ⟨g, x, e1, hx, row_cell hg (take_get h4 ?_)⟩
  simp [ints, hx]
set_option maxRecDepth 100000 in
/-- Two rows of the same numbers. -/
theorem SameNums_ok {w : World} {b1 b2 n : Nat} {v1 v2 : Value} {l : List Nat} (h1 : w.ownsRow b1 3 1 v1 n (ints l)) (h2 : w.ownsRow b2 3 1 v2 n (ints l)) (hn : n ≤ 65536) :
    Calls Tryz.prog 56 #[v1, v2] w fun e w' => e = .returned (.bool true) ∧ Adds w w' := by
  obtain ⟨a1, c1, e1⟩ := owns_form h1
  obtain ⟨a2, c2, e2⟩ := owns_form h2
  subst e1
  subst e2
  have H := Lib.hid (And.intro h1 h2)
  have hn' : (n : Int) ≤ 65536 := by omega
  clear h1 h2
  go_enter Tryz.func56, Tryz.ntmps56
  go_wp2
  go_loopg [5] n (fun g s5 wr => ∃ k : Nat, k ≤ n ∧ g = n - k ∧ s5 = .int .i64 k ∧ Adds w wr)
  case atStart => exact ⟨0, Nat.zero_le _, rfl, rfl, Ch.refl _ _⟩
  case round =>
    obtain ⟨k, hk, rfl, rfl, hA⟩ := hrel
    by_cases hkl : k < n
    · obtain ⟨g1, x, rfl, hx, f1⟩ := ints_cell H.out.1 hkl
      obtain ⟨g2, x2, rfl, hx2, f2⟩ := ints_cell H.out.2 hkl
      rw [hx] at hx2
      cases hx2
      have f1 := hA.cell f1 id
      have f2 := hA.cell f2 id
      have hkz : (k : Int) < (n : Int) := by omega
      have HA := Lib.hid hA
      clear hA hx
      go_wp2
      refine wp_region_plan (fun w0 => w0 = (wr).drew) 9 [(0, false), (1, false), (2, false), (3, false), (4, false), (5, false), (6, false), (7, false), (8, false)] (by kernel_rfl) (by kernel_rfl) rfl ?_
      iterate 9 refine plan_look rfl rfl (fun w0 hS => (by subst hS; go_simp; try rfl)) ?_
      refine plan_end ?_
      simp only [List.drop_succ_cons, List.drop_zero, Act.put, List.setIfInBounds_toArray, List.set_cons_succ, List.set_cons_zero]
      go_wp2
      refine NoPanic.normal ?_
      go_wp2
      go_roundg (n - (k + 1))
      case measure => omega
      case rel => exact ⟨k + 1, by omega, rfl, by go_num, HA.out.drew⟩
    · obtain rfl : k = n := by omega
      have HA := Lib.hid hA
      clear hA
      go_wp2
      go_ret
      exact ⟨rfl, HA.out⟩
set_option maxRecDepth 100000 in
theorem Same_ok (hA : At w s F σ) (hR : ROw w0 w b σ G) (GG : Good σ) :
    Calls Tryz.prog 18 #[.pointer (some ⟨s, 0, none⟩), .pointer (some ⟨b, 0, none⟩), .bool false] w fun e w' => e = .returned (.bool true) ∧ Adds w w' := by
  have hHd := fun w1 (a : Adds w w1) => Handles_ok (hA.adds a)
  have hOc := fun w1 (a : Adds w w1) => Occupied_ok (hA.adds a)
  have hRm := fun w1 (a : Adds w w1) => Room_ok (hA.adds a)
  have rHd := fun w1 (a : Adds w w1) => (hR.adds a).handles GG
  have rOc := fun w1 (a : Adds w w1) => (hR.adds a).occupied GG
  have rRm := fun w1 (a : Adds w w1) => (hR.adds a).room
  have hLk := fun w1 (a : Adds w w1) n => Look_ok (hA.adds a) (hR.adds a) GG n
  have hrow : ∃ ns, ns ≤ 65536 ∧ ∀ w1, Adds w w1 → ∃ ao cap, w1.cell? ⟨b, 2, none⟩ = some (.slice ao ns cap) := by
    obtain ⟨ρ, F2, h1, L, _⟩ := hR
    refine ⟨ρ.spots.length, by have := h1.1.len; have := h1.1.space; omega, fun w1 a => ?_⟩
    obtain ⟨ao, cap, vf, hb⟩ := (h1.adds a).head
    exact ⟨ao, cap, row_cell hb rfl⟩
  obtain ⟨ns, hns, hrow⟩ := hrow
  have hl65 : (handles σ).length ≤ 65536 := by
    have h1 := handles_length (σ := σ)
    have h2 := live_used GG.sound.wf
    have := (hA.used_le).1
    omega
  obtain ⟨us, hus⟩ : ∃ x, x = σ.used := ⟨_, rfl⟩
  obtain ⟨rm, hrm⟩ : ∃ x, x = σ.room := ⟨_, rfl⟩
  obtain ⟨l, hl⟩ : ∃ l, l = handles σ := ⟨_, rfl⟩
  rw [← hl] at hHd rHd hl65
  obtain ⟨n, hn⟩ : ∃ n, n = l.length := ⟨_, rfl⟩
  rw [← hn] at hHd rHd hl65
  rw [← hus] at hOc rOc
  rw [← hrm] at hRm rRm
  have HHd := Lib.hid hHd
  have HOc := Lib.hid hOc
  have HRm := Lib.hid hRm
  have THd := Lib.hid rHd
  have TOc := Lib.hid rOc
  have TRm := Lib.hid rRm
  have HLk := Lib.hid hLk
  have HRow := Lib.hid hrow
  have A0 := Lib.hid (Ch.refl (fun _ => False) w)
  clear hHd hOc hRm rHd rOc rRm hLk hrow hus hrm hl hn hA hR GG
  go_enter Tryz.func18, Tryz.ntmps18
  go_wp2_with fail
  refine (HHd.out _ A0.out).mono ?_; rintro e w1 ⟨v1, rfl, o1, a1⟩
  obtain ⟨b1, c1, rfl⟩ := owns_form o1
  have H1 := Lib.hid (And.intro o1 (A0.out.trans a1 (fun _ h => h.elim)))
  clear o1 a1
  go_wp2_with fail
  refine (HHd.out _ H1.out.2).mono ?_; rintro e w2 ⟨v2, rfl, o2, a2⟩
  obtain ⟨b2, c2, rfl⟩ := owns_form o2
  have H2 := Lib.hid (And.intro (a2.owns H1.out.1 (fun _ _ h => h)) (And.intro o2 (H1.out.2.trans a2 (fun _ h => h.elim))))
  clear o2 a2
  go_wp2_with fail
  refine (HOc.out _ H2.out.2.2).mono ?_; rintro e w3 ⟨rfl, rfl⟩
  go_wp2_with fail
  refine (TOc.out _ H2.out.2.2).mono ?_; rintro e w4 ⟨rfl, a4⟩
  have H4 := Lib.hid (And.intro (a4.owns H2.out.1 (fun _ _ h => h)) (And.intro (a4.owns H2.out.2.1 (fun _ _ h => h)) (H2.out.2.2.trans a4 (fun _ h => h.elim))))
  clear a4
  go_wp2_with fail
  refine (HRm.out _ H4.out.2.2).mono ?_; rintro e w5 ⟨rfl, rfl⟩
  go_wp2_with fail
  refine (TRm.out _ H4.out.2.2).mono ?_; rintro e w5 ⟨rfl, rfl⟩
  go_wp2_with fail
  refine (THd.out _ H4.out.2.2).mono ?_; rintro e w6 ⟨v6, rfl, o6, a6⟩
  obtain ⟨b6, c6, rfl⟩ := owns_form o6
  have hsm := SameNums_ok (a6.owns H4.out.1 (fun _ _ h => h)) o6 hl65
  have HSM := Lib.hid hsm
  have H6 := Lib.hid (And.intro (a6.owns H4.out.1 (fun _ _ h => h)) (And.intro (a6.owns H4.out.2.1 (fun _ _ h => h)) (H4.out.2.2.trans a6 (fun _ h => h.elim))))
  clear o6 a6 hsm
  go_wp2_with fail
  refine HSM.out.mono ?_; rintro e w7 ⟨rfl, a7⟩
  have H7 := Lib.hid (And.intro (a7.owns H6.out.1 (fun _ _ h => h)) (And.intro (a7.owns H6.out.2.1 (fun _ _ h => h)) (H6.out.2.2.trans a7 (fun _ h => h.elim))))
  clear a7
  go_wp2_with fail
  have hG : ∃ g, 0 < n → b1 = some ⟨g, 0, none⟩ ∧ w.heap.size ≤ g ∧ g < w1.heap.size ∧ ∃ cur, w7.heap[g]? = some (.cells cur 3 (0, 0)) ∧ n ≤ cur.size := by
    by_cases h0 : 0 < n
    · obtain ⟨g, cap, cur, e, hg, h1, h2, h3, h4⟩ := owns_block H7.out.1 h0
      injection e with e1 _ _
      subst e1
      have q := (H7.out.1.lt _ rfl).1
      have q2 := (H1.out.1.lt _ rfl).2
      exact ⟨g, fun _ => ⟨rfl, q, q2, cur, hg, by omega⟩⟩
    · exact ⟨0, fun h => absurd h h0⟩
  obtain ⟨g0, hG⟩ := hG
  have HG := Lib.hid hG
  clear hG
  go_loopg [9] n (fun g s9 wr => ∃ k : Nat, k ≤ n ∧ g = n - k ∧ s9 = .int .i64 k ∧ Ch (fun j => 0 < n ∧ j = g0) w7 wr ∧ (0 < n → ∃ cur, wr.heap[g0]? = some (.cells cur 3 (0, 0)) ∧ n ≤ cur.size))
  case atStart => exact ⟨0, Nat.zero_le _, rfl, rfl, Ch.refl _ _, fun h => (HG.out h).2.2.2⟩
  case round =>
    obtain ⟨k, hk, rfl, rfl, hch, hcur⟩ := hrel
    by_cases hkl : k < n
    · obtain ⟨rfl, _⟩ := HG.out (by omega)
      obtain ⟨cur, hcur, hsz⟩ := hcur (by omega)
      obtain ⟨y, hy⟩ : ∃ y, cur[k]? = some y := ⟨_, Array.getElem?_eq_getElem (by omega)⟩
      have c1 := row_cell hcur hy
      have f1 := row_free hcur k
      have l1 := row_lt hcur
      have hkz : (k : Int) < (n : Int) := by omega
      have hset := row_set_same hcur k (.int .i64 (-7))
      have HS := Lib.hid (And.intro hset (And.intro hch hsz))
      clear hset hch hcur hsz hy
      go_wp2
      go_roundg (n - (k + 1))
      case measure => omega
      case rel => exact ⟨k + 1, by omega, rfl, by go_num, HS.out.2.1.setCell (p := ⟨g0, k, none⟩) (.inl ⟨by omega, rfl⟩) _, fun _ => ⟨_, HS.out.1, by rw [Array.size_setIfInBounds]; exact HS.out.2.2⟩⟩
    · obtain rfl : k = n := by omega
      have hA8 : Adds w wr := H7.out.2.2.trans hch (fun j hj => .inr (hj.2 ▸ (HG.out hj.1).2.1))
      have ho8 := hch.owns H7.out.2.1 (fun j hj hq => by
        have h1 := (HG.out hq.1).2.2.1
        have h2 := (H7.out.2.1.lt _ hj).1
        have h3 := hq.2
        omega)
      have H8 := Lib.hid (And.intro hA8 ho8)
      clear hA8 ho8 hch hcur hkl hk
      go_wp2_with fail
      refine (THd.out _ H8.out.1).mono ?_; rintro e w9 ⟨v9, rfl, o9, a9⟩
      obtain ⟨b9, c9, rfl⟩ := owns_form o9
      have hsm := SameNums_ok (a9.owns H8.out.2 (fun _ _ h => h)) o9 hl65
      have HSM := Lib.hid hsm
      have H9 := Lib.hid (H8.out.1.trans a9 (fun _ h => h.elim))
      clear o9 a9 hsm
      go_wp2_with fail
      refine HSM.out.mono ?_; rintro e w10 ⟨rfl, a10⟩
      have H10 := Lib.hid (H9.out.trans a10 (fun _ h => h.elim))
      clear a10
      go_wp2_with fail
      go_loopg [10] (ns + 3) (fun g s10 wr => ∃ k : Nat, k ≤ ns + 3 ∧ g = ns + 3 - k ∧ s10 = .int .i64 ((k : Int) - 1) ∧ Adds w wr)
      case atStart => exact ⟨0, Nat.zero_le _, rfl, rfl, H10.out⟩
      case round =>
        obtain ⟨k, hk, rfl, rfl, hA⟩ := hrel
        obtain ⟨ao, cap, hc⟩ := HRow.out _ hA
        have HA := Lib.hid hA
        clear hA
        have hw1 : IntKind.i64.wrap ((ns : Int) + 1) = (ns : Int) + 1 := IntWalk.i64_in _ (by omega)
        by_cases hkl : k < ns + 3
        · have hkz : (k : Int) - 1 ≤ (ns : Int) + 1 := by omega
          go_wp2_with fail
          refine (HLk.out _ HA.out _).mono ?_; rintro e w11 ⟨rfl, a11⟩
          have HA2 := Lib.hid (HA.out.trans a11 (fun _ h => h.elim))
          clear a11
          go_wp2
          go_roundg (ns + 3 - (k + 1))
          case measure => omega
          case rel => exact ⟨k + 1, by omega, rfl, by go_num, HA2.out⟩
        · have hkz : ¬ ((k : Int) - 1 ≤ (ns : Int) + 1) := by omega
          go_wp2
          go_ret
          exact ⟨rfl, HA.out⟩
end
end Go.Proofs.YtmeglndnkdgkoaaGreat.Store

namespace Go.Proofs.YtmeglndnkdgkoaaGreat.Store
open Go Go.RowKit Go.Proofs.YtmeglndnkdgkoaaGreat Go.Proofs.YtmeglndnkdgkoaaGreat.ShaW Go.Proofs.YtmeglndnkdgkoaaGreat.Path Go.Proofs.YtmeglndnkdgkoaaGreat.Law9
set_option maxHeartbeats 3200000
set_option linter.unusedVariables false
section
variable {w0 w w' : World} {c s b n : Nat} {σ : SlabSt Nd} {root : Int} {aside : List Int} {G : Nat → Prop}
theorem Same_scene (h : ScAt w0 w c s b σ σ root aside G) (GG : Good σ) :
    Calls Tryz.prog 18 #[.pointer (some ⟨s, 0, none⟩), .pointer (some ⟨b, 0, none⟩), .bool false] w fun e w' => e = .returned (.bool true) ∧ Adds w w' := by
  obtain ⟨F, hA⟩ := h.ow.at
  exact Same_ok hA h.row9 GG
set_option maxRecDepth 100000 in
theorem put_script (room : Int) {ao : Option Addr} {len : Nat} (cap : Nat) (ha : Law9.ActsAt w ao len) :
    Calls Tryz.prog 4 #[.int .i64 room, .slice ao len cap] w fun e w' => e = .returned (.bool true) ∧ Adds w w' := by
  have hL := Large_ok room cap ha
  unfold LargeRet at hL
  have HL := Lib.hid hL
  have A0 := Lib.hid (Ch.refl (fun _ => False) w)
  clear hL ha
  go_enter Tryz.func4, Tryz.ntmps4
  go_wp2_with fail
  refine HL.out.mono ?_; rintro e w1 ⟨B, rfl, rfl, hB⟩
  cases B with
  | true =>
    clear hB
    go_wp2
    go_ret
    exact ⟨rfl, A0.out⟩
  | false =>
    obtain ⟨r1, r2, r3, hs⟩ := hB rfl
    obtain ⟨n, rfl⟩ : ∃ n : Nat, room = n := ⟨room.toNat, by omega⟩
    have hP := Play_ok (w := w) n (by omega) (by omega) cap hs r3
    unfold PlayRet at hP
    have HP := Lib.hid hP
    clear hP hs r1 r2 r3
    go_wp2_with fail
    refine HP.out.mono ?_; rintro e w2 ⟨c, s, b, σ, root, L, A, rfl, S2, P2⟩
    obtain ⟨va, vc, hr, _⟩ := S2.row
    have H2 := Lib.hid (And.intro hr (And.intro S2 P2))
    clear S2 P2 hr
    go_wp2
    refine wp_region_plan (fun wz => wz.heap[c]? = some (.cells #[.pointer (some ⟨s, 0, none⟩), .pointer (some ⟨b, 0, none⟩), .int .i64 root, .slice va (firsts A).length vc] 45 (0, 0))) 13 [(0, false), (1, false), (2, false), (3, false), (4, false), (5, false), (6, false), (7, false), (8, false), (9, false), (10, true), (11, false), (12, false)] (by kernel_rfl) (by kernel_rfl) ?_ ?_
    · exact row_drew H2.out.1
    iterate 5
      refine plan_look rfl rfl (fun w0 hS => (by clear hS; go_simp; try rfl)) ?_
      simp only [Act.put, List.setIfInBounds_toArray, List.set_cons_succ, List.set_cons_zero]
    refine plan_look (v := .pointer (some ⟨s, 0, none⟩)) rfl rfl (fun w0 hS => (by have c1 := row_cell hS (i := 0) (v := .pointer (some ⟨s, 0, none⟩)) rfl; clear hS; go_simp; try rfl)) ?_
    simp only [Act.put, List.setIfInBounds_toArray, List.set_cons_succ, List.set_cons_zero]
    iterate 3
      refine plan_look rfl rfl (fun w0 hS => (by clear hS; go_simp; try rfl)) ?_
      simp only [Act.put, List.setIfInBounds_toArray, List.set_cons_succ, List.set_cons_zero]
    refine plan_look (v := .pointer (some ⟨b, 0, none⟩)) rfl rfl (fun w0 hS => (by have c1 := row_cell hS (i := 1) (v := .pointer (some ⟨b, 0, none⟩)) rfl; clear hS; go_simp; try rfl)) ?_
    simp only [Act.put, List.setIfInBounds_toArray, List.set_cons_succ, List.set_cons_zero]
    refine plan_do rfl ?_
    go_wp2_with fail
    refine (Same_scene (H2.out.2.1.adds (Ch.refl _ _).drew) H2.out.2.2.roots.good).mono ?_; rintro e w3 ⟨rfl, a3⟩
    have H3 := Lib.hid (And.intro (a3.row (row_drew H2.out.1) id) (show Adds w2 w3 from (Ch.refl (fun _ => False) w2).drew.trans a3 (fun _ h => h.elim)))
    clear a3
    dsimp only
    go_step
    refine wpList_nil ?_
    change _ ∧ _
    refine ⟨H3.out.1, ?_⟩
    iterate 2
      refine plan_look rfl rfl (fun w0 hS => (by clear hS; go_simp; try rfl)) ?_
      simp only [Act.put, List.setIfInBounds_toArray, List.set_cons_succ, List.set_cons_zero]
    refine plan_end ?_; simp only [List.drop_succ_cons, List.drop_zero]
    go_wp2
    refine NoPanic.normal ?_
    go_wp2
    go_ret
    exact ⟨rfl, H2.out.2.1.world.trans H3.out.2 (fun _ h => h.elim)⟩
set_option maxRecDepth 100000 in
theorem put_other (room : Int) {ao : Option Addr} {len : Nat} (cap : Nat) (ha : Law9.ActsAt w ao len) (x : Act9) (hx : x.Good w) :
    Calls Tryz.prog 5 #[.int .i64 room, .slice ao len cap, .agg x.cells] w fun e w' => e = .returned (.bool true) ∧ Adds w w' := by
  have A0 : Adds w (w.alloc (.cells x.cells 47)) := (Ch.refl (fun _ => False) w).alloc _
  have hL := Large_ok room cap (ha.keep A0 (fun _ h => h.elim))
  unfold LargeRet at hL
  have HL := Lib.hid hL
  have xs := Act9.size hx.key
  have xv := Act9.at_val hx.key
  have xh := Act9.at_h hx.key
  obtain ⟨vo, vc, hvv, _⟩ := hx.val.form
  rw [hvv] at xv
  have hxx := hx.keep A0 (fun _ h => h.elim)
  have hput := fun (σ : SlabSt Nd) (c s b : Nat) (root : Int) (aside : List Int) (G : Nat → Prop) (w1 : World) (h : ScAt (w.alloc (.cells x.cells 47)) w1 c s b σ σ root aside G) (GG : Good σ) hl => put_scene h GG x.h x hxx hl
  unfold PutScene at hput
  have hcost := fun (σ : SlabSt Nd) (c s b : Nat) (root : Int) (aside : List Int) (G : Nat → Prop) (w1 : World) (h : ScAt (w.alloc (.cells x.cells 47)) w1 c s b σ σ root aside G) (GG : Good σ) => cost_scene h GG x.h x (hxx.keep h.world (fun _ h => h.elim))
  have hto := fun (σ σ1 : SlabSt Nd) (y : Int) (h : PutTo σ x.h x.key x.val y σ1) (GG : Good σ) => h.good GG hx.key
  obtain ⟨X, hX⟩ : ∃ X, X = x.cells := ⟨_, rfl⟩
  obtain ⟨z, hz⟩ : ∃ z, z = x.h := ⟨_, rfl⟩
  obtain ⟨vl, hvl⟩ : ∃ vl, vl = x.val.length := ⟨_, rfl⟩
  rw [← hX] at A0 HL xs xv xh hput hcost
  rw [← hX]
  rw [← hz] at xh hput hcost hto
  have HTO := Lib.hid hto
  rw [← hvl] at xv hput
  have HPut := Lib.hid hput
  have HCost := Lib.hid hcost
  have HX := Lib.hid (And.intro xs (And.intro xv xh))
  obtain ⟨W, hW⟩ : ∃ W, W = w.alloc (.cells X 47) := ⟨_, rfl⟩
  have hgx : W.heap[w.heap.size]? = some (.cells X 47 (0, 0)) := by rw [hW]; exact heap_alloc_new w _
  have hlt := row_lt hgx
  rw [← hW] at A0 HL HPut HCost
  have HX0 := Lib.hid (And.intro hgx (And.intro hlt A0))
  have cv := row_cell hgx xv
  clear hL ha hx hvv hxx hput hcost hto hX hz hvl xs xv xh hgx hlt A0
  go_enter Tryz.func5, Tryz.ntmps5
  go_wp2_with fail
  simp only [← hW]
  refine HL.out.mono ?_; rintro e w1 ⟨B, rfl, rfl, hB⟩
  cases B with
  | true =>
    clear hB hW
    go_wp2
    go_ret
    exact ⟨rfl, HX0.out.2.2⟩
  | false =>
    by_cases hv : 2000 < vl
    · have hvi : (2000 : Int) < (vl : Int) := by omega
      clear hB hW
      go_wp2
      go_ret
      exact ⟨rfl, HX0.out.2.2⟩
    have hvi : ¬ (2000 : Int) < (vl : Int) := by omega
    have hv2 : vl ≤ 2000 := by omega
    clear hv
    obtain ⟨r1, r2, r3, hs⟩ := hB rfl
    obtain ⟨n, rfl⟩ : ∃ n : Nat, room = n := ⟨room.toNat, by omega⟩
    have hP := Play_ok (w := W) n (by omega) (by omega) cap hs r3
    unfold PlayRet at hP
    have HP := Lib.hid hP
    clear hP hs r1 r2 r3 hW hB
    go_wp2_with fail
    refine HP.out.mono ?_; rintro e w2 ⟨c, s, b, σ, root, L, A, rfl, S2, P2⟩
    have hgx := S2.world.row HX0.out.1 id
    have ch := row_cell hgx HX.out.2.2
    have H2 := Lib.hid (And.intro hgx (And.intro S2 P2))
    clear S2 P2 hgx cv
    go_wp2_with (first
      | fail
      | ((with_reducible show wpList _ _ _ (⟨_, .load 47 _, _, _, _, _⟩ :: _) _ _); refine wpList_gload_part (by first | rfl | (simp [Region.wanted]; done)) 47 _ rfl w.heap.size 0 rfl H2.out.1 Tryz.underlying47 rfl sizeAct9 (by rw [HX.out.1]; omega) X (by simp [← HX.out.1]) ?_))
    refine (HCost.out _ _ _ _ _ _ _ _ H2.out.2.1 H2.out.2.2.roots.good).mono ?_; rintro e w3 ⟨rfl, a3⟩
    have hgx := a3.row H2.out.1 id
    have ch := row_cell hgx HX.out.2.2
    have H3 := Lib.hid (And.intro hgx (H2.out.2.1.adds a3))
    clear a3 hgx
    go_wp2_with (first
      | fail
      | ((with_reducible show wpList _ _ _ (⟨_, .load 47 _, _, _, _, _⟩ :: _) _ _); refine wpList_load_part rfl 47 _ rfl w.heap.size 0 rfl H3.out.1 Tryz.underlying47 rfl sizeAct9 (by rw [HX.out.1]; omega) X (by simp [← HX.out.1]) ?_))
    refine (HPut.out _ _ _ _ _ _ _ _ H3.out.2 H2.out.2.2.roots.good hv2).mono ?_; rintro e w4 ⟨y, σ1, ⟨rfl, hto⟩, S4, _⟩
    have G4 := HTO.out _ _ _ hto H2.out.2.2.roots.good
    obtain ⟨va, vc', hr, _⟩ := S4.row
    obtain ⟨er, her⟩ : ∃ er, er = putErr σ z x.val := ⟨_, rfl⟩
    rw [← her]
    have H4 := Lib.hid (And.intro hr (And.intro S4 G4))
    clear S4 G4 hr hto her
    go_wp2
    refine wp_region_plan (fun wz => wz.heap[c]? = some (.cells #[.pointer (some ⟨s, 0, none⟩), .pointer (some ⟨b, 0, none⟩), .int .i64 root, .slice va (firsts A).length vc'] 45 (0, 0))) 13 [(0, false), (1, false), (2, false), (3, false), (4, false), (5, false), (6, false), (7, false), (8, false), (9, false), (10, true), (11, false), (12, false)] (by kernel_rfl) (by kernel_rfl) ?_ ?_
    · exact row_drew H4.out.1
    iterate 5
      refine plan_look rfl rfl (fun w0 hS => (by clear hS; go_simp; try rfl)) ?_
      simp only [Act.put, List.setIfInBounds_toArray, List.set_cons_succ, List.set_cons_zero]
    refine plan_look (v := .pointer (some ⟨s, 0, none⟩)) rfl rfl (fun w0 hS => (by have c1 := row_cell hS (i := 0) (v := .pointer (some ⟨s, 0, none⟩)) rfl; clear hS; go_simp; try rfl)) ?_
    simp only [Act.put, List.setIfInBounds_toArray, List.set_cons_succ, List.set_cons_zero]
    iterate 3
      refine plan_look rfl rfl (fun w0 hS => (by clear hS; go_simp; try rfl)) ?_
      simp only [Act.put, List.setIfInBounds_toArray, List.set_cons_succ, List.set_cons_zero]
    refine plan_look (v := .pointer (some ⟨b, 0, none⟩)) rfl rfl (fun w0 hS => (by have c1 := row_cell hS (i := 1) (v := .pointer (some ⟨b, 0, none⟩)) rfl; clear hS; go_simp; try rfl)) ?_
    simp only [Act.put, List.setIfInBounds_toArray, List.set_cons_succ, List.set_cons_zero]
    refine plan_do rfl ?_
    go_wp2_with fail
    refine (Same_scene (H4.out.2.1.adds (Ch.refl _ _).drew) H4.out.2.2).mono ?_; rintro e w5 ⟨rfl, a5⟩
    have H5 := Lib.hid (And.intro (a5.row (row_drew H4.out.1) id) (show Adds w4 w5 from (Ch.refl (fun _ => False) w4).drew.trans a5 (fun _ h => h.elim)))
    clear a5
    dsimp only
    go_step
    refine wpList_nil ?_
    change _ ∧ _
    refine ⟨H5.out.1, ?_⟩
    iterate 2
      refine plan_look rfl rfl (fun w0 hS => (by clear hS; go_simp; try rfl)) ?_
      simp only [Act.put, List.setIfInBounds_toArray, List.set_cons_succ, List.set_cons_zero]
    refine plan_end ?_; simp only [List.drop_succ_cons, List.drop_zero]
    go_wp2
    refine NoPanic.normal ?_
    go_wp2
    go_ret
    exact ⟨rfl, (HX0.out.2.2.trans H4.out.2.1.world (fun _ h => h.elim)).trans H5.out.2 (fun _ h => h.elim)⟩
end
end Go.Proofs.YtmeglndnkdgkoaaGreat.Store
