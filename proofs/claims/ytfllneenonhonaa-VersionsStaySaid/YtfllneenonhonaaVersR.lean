/- SameInts; versions.Roots. -/
import Derived.Test.YtfllneenonhonaaVersN
namespace Go.Proofs.Ytfllneenonhonaa.Store
open Go Go.RowKit Go.Sort Go.Proofs.Ytfllneenonhonaa Go.Proofs.Ytfllneenonhonaa.ShaW Go.Proofs.Ytfllneenonhonaa.Path
set_option maxHeartbeats 1600000
set_option linter.unusedVariables false

abbrev intV (l : List Int) : List Value := l.map (Value.int .i64)
set_option maxRecDepth 100000 in
theorem SameInts_ok {w : World} {a b : Option Addr} {l1 l2 : List Int} (c1 c2 : Nat) (h1 : RowOf w a (intV l1)) (h2 : RowOf w b (intV l2)) (hn1 : l1.length ≤ 65536) (hn2 : l2.length ≤ 65536) :
    Calls Try.prog 46 #[.slice a l1.length c1, .slice b l2.length c2] w fun e w' => e = .returned (.bool (decide (l1 = l2))) ∧ Adds w w' := by
  obtain ⟨n1, e1⟩ : ∃ n, n = l1.length := ⟨_, rfl⟩
  obtain ⟨n2, e2⟩ : ∃ n, n = l2.length := ⟨_, rfl⟩
  rw [← e1] at hn1 ⊢
  rw [← e2] at hn2 ⊢
  have HR := Lib.hid (And.intro h1 h2)
  have HE := Lib.hid (And.intro e1 e2)
  by_cases hne : n1 = n2
  · subst hne
    clear h1 h2 e1 e2
    go_enter Try.func46, Try.ntmps46
    go_wp2
    go_loopg [5] n1 (fun g s5 wr => ∃ k : Nat, s5 = .int .i64 k ∧ k + g = n1 ∧ RowKit.Hid (l1.take k = l2.take k) ∧ Adds w wr)
    case atStart => exact ⟨0, rfl, by omega, Lib.hid rfl, Ch.refl _ _⟩
    case round =>
      obtain ⟨k, rfl, hk, ht, hA⟩ := hrel
      by_cases hkl : k = n1
      · subst hkl
        have hA' := Lib.hid hA
        clear hA
        go_wp2
        go_ret
        have h9 := ht.out
        rw [List.take_of_length_le (Nat.le_of_eq HE.out.1.symm), List.take_of_length_le (Nat.le_of_eq HE.out.2.symm)] at h9
        rw [decide_eq_true h9]
        exact ⟨rfl, hA'.out⟩
      · have hk1 : (k : Int) < (n1 : Int) := by omega
        have hk2 : k < n1 := by omega
        obtain ⟨g, rfl⟩ : ∃ g, gk = g + 1 := ⟨gk - 1, by omega⟩
        obtain ⟨x, hx⟩ : ∃ x, l1[k]? = some x := ⟨_, List.getElem?_eq_getElem (by have := HE.out.1; omega)⟩
        obtain ⟨y, hy⟩ : ∃ y, l2[k]? = some y := ⟨_, List.getElem?_eq_getElem (by have := HE.out.2; omega)⟩
        obtain ⟨g1, o1, rfl, q1⟩ := HR.out.1 k (.int .i64 x) (by rw [intV, List.getElem?_map, hx]; rfl)
        obtain ⟨g2, o2, rfl, q2⟩ := HR.out.2 k (.int .i64 y) (by rw [intV, List.getElem?_map, hy]; rfl)
        have q1' := Lib.hid q1
        have q2' := Lib.hid q2
        have HXY := Lib.hid (And.intro hx hy)
        have HA := Lib.hid hA
        clear hx hy q1 q2 hA HR
        obtain ⟨bb, hbb⟩ : ∃ bb, bb = decide (x = y) := ⟨_, rfl⟩
        have HBB := Lib.hid hbb
        have hxy1 : (x == y) = bb := by rw [hbb]; rfl
        have hxy2 : (x != y) = !bb := by rw [hbb]; rfl
        have hxy3 : decide (x = y) = bb := hbb.symm
        clear hbb
        go_wp2
        refine wp_region_plan (fun w1 => w1.cell? ⟨g1, o1 + k, none⟩ = some (.int .i64 x) ∧ w1.cell? ⟨g2, o2 + k, none⟩ = some (.int .i64 y)) 9 [(0, false), (1, false), (2, false), (3, false), (4, false), (5, false), (6, false), (7, false), (8, false)] (by kernel_rfl) (by kernel_rfl) ?_ ?_
        · exact ⟨HA.out.drew.cell q1'.out id, HA.out.drew.cell q2'.out id⟩
        iterate 3
          refine plan_look rfl rfl (fun w0 hS => (by clear hS; go_simp; try rfl)) ?_
          simp only [Act.put, List.setIfInBounds_toArray, List.set_cons_succ, List.set_cons_zero]
        refine plan_look (v := .int .i64 x) rfl rfl (fun w0 hS => (by have e0 := hS.1; clear hS; go_simp; try rfl)) ?_
        simp only [Act.put, List.setIfInBounds_toArray, List.set_cons_succ, List.set_cons_zero]
        iterate 3
          refine plan_look rfl rfl (fun w0 hS => (by clear hS; go_simp; try rfl)) ?_
          simp only [Act.put, List.setIfInBounds_toArray, List.set_cons_succ, List.set_cons_zero]
        refine plan_look (v := .int .i64 y) rfl rfl (fun w0 hS => (by have e0 := hS.2; clear hS; go_simp; try rfl)) ?_
        simp only [Act.put, List.setIfInBounds_toArray, List.set_cons_succ, List.set_cons_zero]
        refine plan_look (v := .bool (!bb)) rfl rfl (fun w0 hS => (by clear hS; go_simp; try rfl)) ?_
        simp only [Act.put, List.setIfInBounds_toArray, List.set_cons_succ, List.set_cons_zero]
        refine plan_end ?_; simp only [List.drop_succ_cons, List.drop_zero]
        cases bb with
        | true =>
          have hxy : x = y := of_decide_eq_true HBB.out.symm
          go_wp2
          refine NoPanic.normal ?_
          go_wp2
          go_roundg g
          case measure => omega
          case rel => exact ⟨k + 1, by simp, by omega, Lib.hid (by rw [List.take_add_one, List.take_add_one, ht.out, HXY.out.1, HXY.out.2, hxy]), HA.out.drew⟩
        | false =>
          have hxy : ¬ x = y := of_decide_eq_false HBB.out.symm
          have HNE := Lib.hid hxy
          clear hxy
          go_wp2
          refine NoPanic.normal ?_
          go_wp2
          go_ret
          have h9 : ¬ l1 = l2 := by
            intro h
            have h1 := HXY.out.1
            rw [h, HXY.out.2] at h1
            injection h1 with h1
            exact HNE.out h1.symm
          rw [decide_eq_false h9]
          exact ⟨rfl, HA.out.drew⟩
  · have hd : decide (l1 = l2) = false := decide_eq_false (fun h => hne (by rw [e1, e2, h]))
    rw [hd]
    have hx : ¬ (n1 : Int) = (n2 : Int) := by omega
    have hxd : decide (n1 = n2) = false := decide_eq_false hne
    clear h1 h2 e1 e2 hd
    go_enter Try.func46, Try.ntmps46
    go_wp2
    go_ret
    exact ⟨rfl, Ch.refl _ _⟩
section
variable {w0 w : World} {v s : Nat} {σ : SlabSt Nd} {ν : Nms} {G : Nat → Prop}
set_option maxRecDepth 100000 in
theorem Vs.roots_ok (h : Vs w0 w v s σ ν G) (hl : ν.length ≤ 65536) :
    Calls Try.prog 47 #[.pointer (some ⟨v, 0, none⟩)] w fun e w' => ∃ q, e = .returned q ∧ w'.ownsRow w.heap.size 3 1 q ν.length (intV ((sortN ν).map ν.get)) ∧ Adds w w' := by
  have hnm := h.names_ok hl
  obtain ⟨m, h1, h2, h3, h4⟩ := h
  have hlen : ∀ x ∈ ν.names, x.length ≤ maxLen := h3.len
  have hc1 := fun w1 (a : Adds w w1) => row_cell (a.row h2 id) (i := 1) rfl
  have hlk := fun w1 (a : Adds w w1) x (hx : x ∈ ν.names) => (h3.keep a id).look1 (hlen x hx)
  obtain ⟨i0, p1, p2, p3, p4⟩ := infoN
  have HI := Lib.hid (And.intro p1 (And.intro p2 (And.intro p3 p4)))
  obtain ⟨n, hn⟩ : ∃ n, n = ν.length := ⟨_, rfl⟩
  have hsl : (sortN ν).length = n := by rw [sortN_length, hn]
  obtain ⟨L, hL⟩ : ∃ L, L = sortN ν := ⟨_, rfl⟩
  have hLm : ∀ x ∈ L, x ∈ ν.names := fun x hx => by rw [hL] at hx; exact sortN_mem.1 hx
  rw [← hn, ← hL] at hnm ⊢
  rw [← hn] at hl
  rw [← hL] at hsl
  have HNM := Lib.hid hnm
  have HC := Lib.hid (And.intro hc1 (And.intro hlk (And.intro hsl hLm)))
  clear h1 h2 h3 h4 hnm hlen hc1 hlk hsl hLm hn hL p1 p2 p3 p4
  go_enter Try.func47, Try.ntmps47
  go_wp2_with fail
  refine HNM.out.mono ?_; rintro e w1 ⟨q, rfl, o1, a1⟩
  obtain ⟨qo, qc, rfl⟩ := owns_form o1
  have A1 := Lib.hid (And.intro a1 o1)
  clear a1 o1
  go_wp2_with fail
  go_loopg [3, 5, 9] n (fun g s3 s5 s9 wr => ∃ (k : Nat) (vo : Option Addr) (vc : Nat), s9 = .int .i64 k ∧ s3 = .slice vo k vc ∧ k + g = n ∧ wr.ownsRow w1.heap.size 3 1 (.slice vo k vc) k (intV ((L.take k).map ν.get)) ∧ Adds w1 wr)
  case atStart => exact ⟨0, none, 0, rfl, rfl, by omega, World.ownsRow_nil _ _ _ _, Ch.refl _ _⟩
  case round =>
    obtain ⟨k, vo, vc, rfl, rfl, hk, hown, hA⟩ := hrel
    have H := Lib.hid (And.intro hown hA)
    clear hown hA
    by_cases hkn : k = n
    · subst hkn
      go_wp2
      go_ret
      have h9 := H.out.1
      rw [List.take_of_length_le (Nat.le_of_eq HC.out.2.2.1)] at h9
      exact ⟨_, rfl, h9.base (fun k hk => Nat.le_trans A1.out.1.size (h9.lt k hk).1), A1.out.1.trans H.out.2 (fun _ h => h.elim)⟩
    · have hk1 : (k : Int) < (n : Int) := by omega
      have hk2 : k < n := by omega
      obtain ⟨g, rfl⟩ : ∃ g, gk = g + 1 := ⟨gk - 1, by omega⟩
      obtain ⟨x, hx⟩ : ∃ x, L[k]? = some x := ⟨_, List.getElem?_eq_getElem (by have := HC.out.2.2.1; omega)⟩
      have hxm := HC.out.2.2.2 x (List.mem_of_getElem? hx)
      obtain ⟨ao, cap, e1, hrow, hrl⟩ := RowOf.own A1.out.2
      injection e1 with e1 _ e2
      subst e1 e2
      obtain ⟨g1, o1, rfl, q1⟩ := (hrow.adds H.out.2) k (encStr x) (by rw [List.getElem?_map, hx]; rfl)
      have aw : Adds w wr := A1.out.1.trans H.out.2 (fun _ h => h.elim)
      have c1 := HC.out.1 wr aw
      obtain ⟨S, hS⟩ : ∃ S, S = bstr x := ⟨_, rfl⟩
      obtain ⟨c, hc⟩ : ∃ c, c = ν.get x := ⟨_, rfl⟩
      have hlk := HC.out.2.1 wr aw x hxm
      rw [← hS, ← hc] at hlk
      have q2 : wr.cell? ⟨g1, o1 + k, none⟩ = some (.string S) := by rw [hS]; exact q1
      have HX := Lib.hid (And.intro hx hc)
      clear hrow hrl q1 hx hc hS aw hxm
      go_wp2_with (first
        | fail
        | (at_builtin; refine wpList_append_own _ rfl _ _ 63 rfl w1.heap.size 3 i0 (.int .i64 0) 1 8 Try.underlying63 HI.out.1 HI.out.2.1 HI.out.2.2.1 HI.out.2.2.2 rfl (by decide) (.slice vo k vc) k _ rfl (H.out.1.alloc _) ⟨wr.heap.size, 0, none⟩ 1 1 [.int .i64 c] rfl rfl (row_news (cs := #[.int .i64 c]) (t := 3) (fr := (0, 0)) (heap_alloc_at _ _ _ (by simp))) (by simp [Value.oneCell']) (by unfold maxLen; omega) (by omega) (by have := H.out.2.size; simp; omega) ?_; intro v' w4 own' grow' nil'))
      obtain ⟨vo', vc', rfl⟩ := owns_form own'
      have H4 : RowKit.Hid (w4.ownsRow w1.heap.size 3 1 (.slice vo' (k + 1) vc') (k + 1) (intV ((L.take (k + 1)).map ν.get)) ∧ Adds w1 w4) := Lib.hid ⟨by
        rw [List.take_add_one, HX.out.1, List.map_append, intV, List.map_append]
        simp only [Option.toList, List.map_cons, List.map_nil]
        rw [← HX.out.2]
        exact own', (H.out.2.alloc _).grown grow' (fun k hk => .inr ((H.out.1.lt k hk).1))⟩
      clear own' grow' nil' c1 hlk q2
      go_wp2
      go_roundg g
      case measure => omega
      case rel => exact ⟨k + 1, vo', vc', by simp, rfl, by omega, H4.out.1, H4.out.2⟩
end
end Go.Proofs.Ytfllneenonhonaa.Store
