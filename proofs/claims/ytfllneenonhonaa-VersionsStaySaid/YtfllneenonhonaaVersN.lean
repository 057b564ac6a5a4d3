/- versions.Names and Roots; SameTexts, SameInts. -/
import Derived.Test.YtfllneenonhonaaVersW
import Derived.Test.YtfllneenonhonaaStrLay
import Derived.Sort.OwnSorted
import Derived.Lib.SlicesS
import Derived.Maps.RangeWalk
import Derived.Maps.AppendAt
import Derived.Deep.LoopGhost
namespace Go.Proofs.Ytfllneenonhonaa.Store
open Go Go.RowKit Go.Sort Go.Proofs.Ytfllneenonhonaa Go.Proofs.Ytfllneenonhonaa.ShaW Go.Proofs.Ytfllneenonhonaa.Path
set_option maxHeartbeats 1600000
set_option linter.unusedVariables false

theorem infoS : ∃ i, Try.prog.info? 9 = some i ∧ i.zero = some (.string ByteArray.empty) ∧ i.size = 1 ∧ i.bytes = 16 := by
  obtain ⟨i, h1, h2, h3, h4⟩ := info_parts (P := Try.prog) (e := 9) (z := .string ByteArray.empty) (size := 1) (bytes := 16) (by kernel_rfl)
  exact ⟨i, h1, h2, h3, h4⟩
theorem infoN : ∃ i, Try.prog.info? 3 = some i ∧ i.zero = some (.int .i64 0) ∧ i.size = 1 ∧ i.bytes = 8 := by
  obtain ⟨i, h1, h2, h3, h4⟩ := info_parts (P := Try.prog) (e := 3) (z := .int .i64 0) (size := 1) (bytes := 8) (by kernel_rfl)
  exact ⟨i, h1, h2, h3, h4⟩
/-- sort.Strings of a row of the call's own. -/
theorem sortS_ok {w : World} {base : Nat} {q : Value} {ss : List (List UInt8)} (h : w.ownsRow base 9 1 q ss.length (ss.map encStr)) (hs : ss.length < 4611686018427387904) :
    Calls Try.prog 80 #[q] w fun e w' => e = .returned (.tuple #[]) ∧ w'.ownsRow base 9 1 q ss.length ((ss.mergeSort leB).map encStr) ∧ w.grownBy w' q.ownBlock := by
  rcases h.2 with ⟨hnil, h0⟩ | ⟨g, cap, cur, rfl, hbase, hb, h1, h2, h3, h4⟩
  · subst hnil
    have hs0 : ss = [] := List.eq_nil_of_length_eq_zero h0
    subst hs0
    refine (Any.sort_Strings_none sortStrings none 0 w).mono fun e w' hw => ?_
    obtain ⟨he, rfl⟩ := hw
    exact ⟨he, by simpa using World.ownsRow_nil w' base 9 1, ⟨rfl, rfl, rfl, Nat.le_refl _, fun _ _ _ => rfl⟩⟩
  · have hH := holds_of_block hb (by simpa using h4)
    refine (Any.sort_Strings sortStrings g 0 cap ss w hH (Array.getElem?_eq_some_iff.1 hb).1 hs).mono fun e w' ⟨he, n, os, hw⟩ => ⟨he, ?_, ?_⟩
    · rw [hw]
      exact ownsRow_sorted (by simp) hbase hb h1 h2 h3
    · rw [hw]
      exact grownBy_sorted _
section
variable {w0 w : World} {v s : Nat} {σ : SlabSt Nd} {ν : Nms} {G : Nat → Prop}
def sortN (ν : Nms) : List (List UInt8) := ν.names.mergeSort leB
theorem sortN_length (ν : Nms) : (sortN ν).length = ν.length := by simp [sortN, Nms.names]
theorem sortN_mem {ν : Nms} {x : List UInt8} : x ∈ sortN ν ↔ x ∈ ν.names := by simp [sortN]
set_option maxRecDepth 100000 in
theorem Vs.names_ok (h : Vs w0 w v s σ ν G) (hl : ν.length ≤ 65536) :
    Calls Try.prog 39 #[.pointer (some ⟨v, 0, none⟩)] w fun e w' => ∃ q, e = .returned q ∧ w'.ownsRow w.heap.size 9 1 q ν.length ((sortN ν).map encStr) ∧ Adds w w' := by
  have hn := h.none_no
  obtain ⟨m, h1, h2, h3, h4⟩ := h
  have c1 := row_cell h2 (i := 1) rfl
  have hml := h3.lt
  obtain ⟨⟨D, hown, hsz, hhas⟩, hnd, hlen⟩ := h3
  obtain ⟨i0, p1, p2, p3, p4⟩ := infoS
  have HI := Lib.hid (And.intro p1 (And.intro p2 (And.intro p3 p4)))
  obtain ⟨N, hN⟩ : ∃ N, N = Maps.size D := ⟨_, rfl⟩
  have HN := Lib.hid hn
  have HS := Lib.hid (And.intro hsz (And.intro hN hl))
  have HH := Lib.hid (And.intro hhas hnd)
  have hN6 : N ≤ 65536 := by omega
  clear h1 h2 h4 hn hsz hhas hnd hlen p1 p2 p3 p4 hl hN
  go_enter Try.func39, Try.ntmps39
  go_wp2_with fail
  refine HN.out.mono ?_; rintro e w1 ⟨rfl, rfl⟩
  go_wp2_with (first
    | fail
    | (at_range; refine wpList_range_own _ rfl _ 122 rfl 9 3 lawS Try.underlying122 elemN m ν.length D rfl hown ?_; intro w2 hrg0 hg0 hs0))
  try go_frame
  have hA0 : Adds w w2 := (Ch.refl _ _).grown hg0 (fun _ h => by cases h)
  rw [← HS.out.2.1] at hrg0
  have HR0 := Lib.hid (And.intro hrg0 hA0)
  clear hrg0 hg0 hs0 hA0 hown
  go_loopg [3, 4] N (fun g s3 s4 wr => ∃ (left : Lit → Bool) (ss : List (List UInt8)) (qo : Option Addr) (qc : Nat), s3 = .slice qo ss.length qc ∧ wr.ranges Try.prog 9 elemN m w.heap.size ν.length D left g ∧ Collected D left ss ∧
    wr.ownsRow w.heap.size 9 1 (.slice qo ss.length qc) ss.length (ss.map encStr) ∧ Adds w wr ∧ ss.length + g ≤ N)
  case atStart => exact ⟨_, [], none, 0, rfl, HR0.out.1, Collected.start D, World.ownsRow_nil _ _ _ _, HR0.out.2, by simp⟩
  case round =>
    obtain ⟨left, ss, qo, qc, rfl, hrg, hC, hown, hA, hcn⟩ := hrel
    obtain ⟨sl, hsl⟩ : ∃ sl, sl = ss.length := ⟨_, rfl⟩
    rw [← hsl] at hown hcn ⊢
    have hsl6 : sl ≤ 65536 := by omega
    have HC := Lib.hid (And.intro hC (And.intro hown (And.intro hA (And.intro hcn hsl))))
    clear hC hown hA HR0 hsl
    go_wp2_with (first
      | fail
      | (at_next; refine wpList_next_ranges _ rfl _ rfl 9 lawS elemN encStr (Value.int .i64) (fun key kl hk => by obtain ⟨x, hx, _⟩ := Maps.keyOf_str Try.underlying9 hk; exact ⟨x, hx⟩) (fun u y hv => by obtain ⟨c, rfl, _⟩ := plainElem_int_inv Try.underlying3 hv; exact ⟨c, rfl⟩) m w.heap.size ν.length D left _ rfl hrg ?_ ?_))
    · intro _ hl0
      have HL0 := Lib.hid hl0
      clear hl0 hrg
      have hso := fun w3 (a : Adds wr w3) => sortS_ok (w := w3) (ss := ss) (base := w.heap.size) (q := .slice qo ss.length qc) (by have := HC.out.2.1; rw [HC.out.2.2.2.2] at this; exact a.owns this (fun _ _ h => h)) (by have := HC.out.2.2.2.2; omega)
      rw [← HC.out.2.2.2.2] at hso
      have HSO := Lib.hid hso
      clear hso
      go_wp2_with fail
      refine (HSO.out _ (Ch.refl _ _)).mono ?_; rintro e w3 ⟨rfl, o3, g3⟩
      have H3 : RowKit.Hid (w3.ownsRow w.heap.size 9 1 (.slice qo sl qc) ν.length ((sortN ν).map encStr) ∧ Adds w w3) := Lib.hid (by
        have hp : ss.Perm ν.names := by
          refine (List.perm_ext_iff_of_nodup HC.out.1.1 HH.out.2).2 fun x => ?_
          rw [HC.out.1.2 x, HL0.out, (HH.out.1 x).1]
          simp
        have hll : sl = ν.length := by
          have := hp.length_eq
          rw [HC.out.2.2.2.2, this]
          simp [Nms.names]
        have hmg : ss.mergeSort leB = sortN ν := mergeSort_of_perm hp
        rw [hmg] at o3
        refine ⟨by rw [← hll]; exact o3, HC.out.2.2.1.grown g3 (fun k hk => .inr ?_)⟩
        exact (HC.out.2.1.lt k hk).1)
      clear o3 g3
      go_wp2
      go_ret
      exact ⟨_, rfl, H3.out⟩
    · intro x c kl yd yp w2 cnt2 hkey hlk hv hat hrg2 hlt hg2 hs2 hen
      obtain ⟨x', ex, rfl, hxl⟩ := Maps.keyOf_str Try.underlying9 hkey
      obtain rfl : x = x' := encStr_inj ex
      have hA2 : Adds w w2 := HC.out.2.2.1.grown hg2 (fun k hk => .inr (by cases hk; exact Nat.le_refl _))
      have own2 : w2.ownsRow w.heap.size 9 1 (.slice qo sl qc) sl (ss.map encStr) := HC.out.2.1.kept hg2 (by
        rcases hq : (Value.slice qo sl qc).ownBlock with _ | k
        · exact .inl rfl
        · exact .inr (fun e => row_ne_iter HC.out.2.1 hrg (by rw [hq]; exact e.symm)))
      have hC2 := HC.out.1.step hlk hat
      have H2 := Lib.hid (And.intro hA2 (And.intro own2 (And.intro hC2 (And.intro hrg2 hlt))))
      obtain ⟨S, hS⟩ : ∃ S, S = bstr x := ⟨_, rfl⟩
      have hen' : (Instr.entry (.pointer (some ⟨w.heap.size, 0, none⟩))).run Try.prog w2 = .ok (.tuple #[.string S, .int .i64 c]) w2 := by rw [hS]; exact hen
      have HSS := Lib.hid hS
      have HX := Lib.hid (show encStr x = .string S by rw [hS]; rfl)
      clear hen hs2 hg2 hrg2 hlt hC2 own2 hA2 hrg hkey hlk hv hat hxl ex hS
      go_wp2_with (first
        | fail
        | (at_builtin; refine wpList_append_own _ rfl _ _ 88 rfl w.heap.size 9 i0 (.string ByteArray.empty) 1 16 Try.underlying88 HI.out.1 HI.out.2.1 HI.out.2.2.1 HI.out.2.2.2 rfl (by decide) (.slice qo sl qc) sl (ss.map encStr) rfl (H2.out.2.1.alloc _) ⟨w2.heap.size, 0, none⟩ 1 1 [.string S] rfl rfl (row_news (cs := #[.string S]) (t := 9) (fr := (0, 0)) (heap_alloc_at _ _ _ (by simp))) (by simp [Value.oneCell']) (by unfold maxLen; omega) (by omega) (by have := H2.out.1.size; simp; omega) ?_; intro v' w4 own' grow' nil'))
      obtain ⟨vo, vc, rfl⟩ := owns_form own'
      have H4 : RowKit.Hid (w4.ranges Try.prog 9 elemN m w.heap.size ν.length D (fun z => left z && !z.sameKey (.string x)) cnt2 ∧ w4.ownsRow w.heap.size 9 1 (.slice vo (sl + 1) vc) (sl + 1) (ss.map encStr ++ [.string S]) ∧ Adds w w4) := Lib.hid ⟨
        ((H2.out.2.2.2.1.kept (row := none) (World.grownBy_alloc w2 _ none) (by simp) (by simp)).kept grow' (row_ne_low H2.out.2.1 hml) (row_ne_iter H2.out.2.1 H2.out.2.2.2.1)), own',
        (H2.out.1.alloc _).grown grow' (fun k hk => .inr ((H2.out.2.1.lt k hk).1))⟩
      clear own' grow' nil'
      go_wp2
      go_roundg cnt2
      case measure => exact H2.out.2.2.2.2
      case rel =>
        refine ⟨_, ss ++ [x], vo, vc, ?_, H4.out.1, H2.out.2.2.1, ?_, H4.out.2.2, ?_⟩
        · rw [List.length_append, ← HC.out.2.2.2.2]; rfl
        · have := H4.out.2.1
          rw [List.length_append, ← HC.out.2.2.2.2, List.map_append, List.map_cons, List.map_nil, HX.out]
          exact this
        · have h5 := H2.out.2.2.2.2
          have h6 := HC.out.2.2.2.1
          rw [List.length_append, ← HC.out.2.2.2.2]
          simp only [List.length_cons, List.length_nil]
          omega
end
/-! ### rows that are compared -/
/-- A slice whose elements, each of one cell, are these. -/
def RowOf (w : World) (ao : Option Addr) (l : List Value) : Prop := ∀ i x, l[i]? = some x → ∃ g off, ao = some ⟨g, off, none⟩ ∧ w.cell? ⟨g, off + i, none⟩ = some x
theorem RowOf.adds {w w' : World} {ao : Option Addr} {l : List Value} (h : RowOf w ao l) (a : Adds w w') : RowOf w' ao l := fun i x hx => by
  obtain ⟨g, off, h1, h2⟩ := h i x hx
  exact ⟨g, off, h1, a.cell h2 id⟩
theorem RowOf.own {w : World} {base : Nat} {e : TypeId} {q : Value} {n : Nat} {l : List Value} (h : w.ownsRow base e 1 q n l) : ∃ ao cap, q = .slice ao n cap ∧ RowOf w ao l ∧ l.length = n := by
  have hl : l.length = n := by have := h.1; omega
  obtain ⟨ao, cap, rfl⟩ := owns_form h
  refine ⟨ao, cap, rfl, fun i x hx => ?_, hl⟩
  have hi := (List.getElem?_eq_some_iff.1 hx).1
  obtain ⟨g, cap', cur, he, hg, h1, h2, h3, h4⟩ := owns_block h (by omega)
  cases he
  have h4' : cur.toList.take n = l := by simpa using h4
  refine ⟨g, 0, rfl, ?_⟩
  rw [Nat.zero_add]
  refine row_cell hg ?_
  rw [← Array.getElem?_toList]
  rw [← h4'] at hx
  rw [List.getElem?_take_of_lt (by omega)] at hx
  exact hx
theorem RowOf.nil (w : World) (ao : Option Addr) : RowOf w ao [] := fun i x hx => by simp at hx
set_option maxRecDepth 100000 in
theorem SameTexts_ok {w : World} {a b : Option Addr} {l1 l2 : List (List UInt8)} (c1 c2 : Nat) (h1 : RowOf w a (l1.map encStr)) (h2 : RowOf w b (l2.map encStr)) (hn1 : l1.length ≤ 65536) (hn2 : l2.length ≤ 65536) :
    Calls Try.prog 45 #[.slice a l1.length c1, .slice b l2.length c2] w fun e w' => e = .returned (.bool (decide (l1 = l2))) ∧ Adds w w' := by
  obtain ⟨n1, e1⟩ : ∃ n, n = l1.length := ⟨_, rfl⟩
  obtain ⟨n2, e2⟩ : ∃ n, n = l2.length := ⟨_, rfl⟩
  rw [← e1] at hn1 ⊢
  rw [← e2] at hn2 ⊢
  have HR := Lib.hid (And.intro h1 h2)
  have HE := Lib.hid (And.intro e1 e2)
  by_cases hne : n1 = n2
  · subst hne
    clear h1 h2 e1 e2
    go_enter Try.func45, Try.ntmps45
    go_wp2
    go_loopg [5] n1 (fun g s5 wr => ∃ k : Nat, s5 = .int .i64 k ∧ k + g = n1 ∧ RowKit.Hid (l1.take k = l2.take k) ∧ Adds w wr)
    case atStart => exact ⟨0, rfl, by omega, Lib.hid rfl, Ch.refl _ _⟩
    case round =>
      obtain ⟨k, rfl, hk, ht, hA⟩ := hrel
      by_cases hkl : k = n1
      · subst hkl
        have hA' := Lib.hid hA
        clear hA
        go_wp2
        go_ret
        have h9 := ht.out
        rw [List.take_of_length_le (Nat.le_of_eq HE.out.1.symm), List.take_of_length_le (Nat.le_of_eq HE.out.2.symm)] at h9
        rw [decide_eq_true h9]
        exact ⟨rfl, hA'.out⟩
      · have hk1 : (k : Int) < (n1 : Int) := by omega
        have hk2 : k < n1 := by omega
        obtain ⟨g, rfl⟩ : ∃ g, gk = g + 1 := ⟨gk - 1, by omega⟩
        obtain ⟨x, hx⟩ : ∃ x, l1[k]? = some x := ⟨_, List.getElem?_eq_getElem (by have := HE.out.1; omega)⟩
        obtain ⟨y, hy⟩ : ∃ y, l2[k]? = some y := ⟨_, List.getElem?_eq_getElem (by have := HE.out.2; omega)⟩
        obtain ⟨g1, o1, rfl, q1⟩ := HR.out.1 k (encStr x) (by rw [List.getElem?_map, hx]; rfl)
        obtain ⟨g2, o2, rfl, q2⟩ := HR.out.2 k (encStr y) (by rw [List.getElem?_map, hy]; rfl)
        obtain ⟨X, hX⟩ : ∃ X, X = bstr x := ⟨_, rfl⟩
        obtain ⟨Y, hY⟩ : ∃ Y, Y = bstr y := ⟨_, rfl⟩
        have q1' := Lib.hid (show w.cell? ⟨g1, o1 + k, none⟩ = some (.string X) by rw [hX]; exact q1)
        have q2' := Lib.hid (show w.cell? ⟨g2, o2 + k, none⟩ = some (.string Y) by rw [hY]; exact q2)
        have HXY := Lib.hid (And.intro hx (And.intro hy (And.intro hX hY)))
        have HA := Lib.hid hA
        clear hx hy q1 q2 hX hY hA HR
        by_cases hxy : x = y
        · have hb : (X.toList == Y.toList) = true := by rw [HXY.out.2.2.1, HXY.out.2.2.2, hxy]; simp
          have heq : X = Y := by rw [HXY.out.2.2.1, HXY.out.2.2.2, hxy]
          have HEQ := Lib.hid heq
          clear heq
          go_wp2
          refine wp_region_plan (fun w1 => w1.cell? ⟨g1, o1 + k, none⟩ = some (.string X) ∧ w1.cell? ⟨g2, o2 + k, none⟩ = some (.string Y)) 9 [(0, false), (1, false), (2, false), (3, false), (4, false), (5, false), (6, false), (7, false), (8, false)] (by kernel_rfl) (by kernel_rfl) ?_ ?_
          · exact ⟨HA.out.drew.cell q1'.out id, HA.out.drew.cell q2'.out id⟩
          iterate 3
            refine plan_look rfl rfl (fun w0 hS => (by clear hS; go_simp; try rfl)) ?_
            simp only [Act.put, List.setIfInBounds_toArray, List.set_cons_succ, List.set_cons_zero]
          refine plan_look (v := .string X) rfl rfl (fun w0 hS => (by have e0 := hS.1; clear hS; go_simp; try rfl)) ?_
          simp only [Act.put, List.setIfInBounds_toArray, List.set_cons_succ, List.set_cons_zero]
          iterate 3
            refine plan_look rfl rfl (fun w0 hS => (by clear hS; go_simp; try rfl)) ?_
            simp only [Act.put, List.setIfInBounds_toArray, List.set_cons_succ, List.set_cons_zero]
          refine plan_look (v := .string Y) rfl rfl (fun w0 hS => (by have e0 := hS.2; clear hS; go_simp; try rfl)) ?_
          simp only [Act.put, List.setIfInBounds_toArray, List.set_cons_succ, List.set_cons_zero]
          refine plan_look (v := .bool false) rfl rfl (fun w0 hS => (by clear hS; go_simp; try rfl)) ?_
          simp only [Act.put, List.setIfInBounds_toArray, List.set_cons_succ, List.set_cons_zero]
          refine plan_end ?_; simp only [List.drop_succ_cons, List.drop_zero]
          go_wp2
          refine NoPanic.normal ?_
          go_wp2
          go_roundg g
          case measure => omega
          case rel => exact ⟨k + 1, by simp, by omega, Lib.hid (by rw [List.take_add_one, List.take_add_one, ht.out, HXY.out.1, HXY.out.2.1, hxy]), HA.out.drew⟩
        · have hb : (X.toList == Y.toList) = false := by
            rw [Lib.bytes_beq_false_iff, HXY.out.2.2.1, HXY.out.2.2.2]
            intro h
            exact hxy (by have := congrArg (fun s => s.data.toList) h; simpa [bstr] using this)
          have hne : ¬ X = Y := fun h => by rw [(Lib.bytes_beq_iff X Y).2 h] at hb; cases hb
          have HNE := Lib.hid hne
          clear hne
          go_wp2
          refine wp_region_plan (fun w1 => w1.cell? ⟨g1, o1 + k, none⟩ = some (.string X) ∧ w1.cell? ⟨g2, o2 + k, none⟩ = some (.string Y)) 9 [(0, false), (1, false), (2, false), (3, false), (4, false), (5, false), (6, false), (7, false), (8, false)] (by kernel_rfl) (by kernel_rfl) ?_ ?_
          · exact ⟨HA.out.drew.cell q1'.out id, HA.out.drew.cell q2'.out id⟩
          iterate 3
            refine plan_look rfl rfl (fun w0 hS => (by clear hS; go_simp; try rfl)) ?_
            simp only [Act.put, List.setIfInBounds_toArray, List.set_cons_succ, List.set_cons_zero]
          refine plan_look (v := .string X) rfl rfl (fun w0 hS => (by have e0 := hS.1; clear hS; go_simp; try rfl)) ?_
          simp only [Act.put, List.setIfInBounds_toArray, List.set_cons_succ, List.set_cons_zero]
          iterate 3
            refine plan_look rfl rfl (fun w0 hS => (by clear hS; go_simp; try rfl)) ?_
            simp only [Act.put, List.setIfInBounds_toArray, List.set_cons_succ, List.set_cons_zero]
          refine plan_look (v := .string Y) rfl rfl (fun w0 hS => (by have e0 := hS.2; clear hS; go_simp; try rfl)) ?_
          simp only [Act.put, List.setIfInBounds_toArray, List.set_cons_succ, List.set_cons_zero]
          refine plan_look (v := .bool true) rfl rfl (fun w0 hS => (by clear hS; go_simp; try rfl)) ?_
          simp only [Act.put, List.setIfInBounds_toArray, List.set_cons_succ, List.set_cons_zero]
          refine plan_end ?_; simp only [List.drop_succ_cons, List.drop_zero]
          go_wp2
          refine NoPanic.normal ?_
          go_wp2
          go_ret
          have h9 : ¬ l1 = l2 := by
            intro h
            have h1 := HXY.out.1
            rw [h, HXY.out.2.1] at h1
            injection h1 with h1
            exact hxy h1.symm
          rw [decide_eq_false h9]
          exact ⟨rfl, HA.out.drew⟩
  · have hd : decide (l1 = l2) = false := decide_eq_false (fun h => hne (by rw [e1, e2, h]))
    rw [hd]
    have hx : ¬ (n1 : Int) = (n2 : Int) := by omega
    have hxd : decide (n1 = n2) = false := decide_eq_false hne
    clear h1 h2 e1 e2 hd
    go_enter Try.func45, Try.ntmps45
    go_wp2
    go_ret
    exact ⟨rfl, Ch.refl _ _⟩
end Go.Proofs.Ytfllneenonhonaa.Store
