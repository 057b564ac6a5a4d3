/- 'All' of a true slab: a closure over the occupied slots and their things. -/
import Derived.Test.YtdgdpbmaalcedaaSlabOI
import Derived.Deep.OwnRows
import Derived.Laws.OwnMore
import Derived.Test.YtdgdpbmaalcedaaSlabM2
namespace Go.Proofs.Ytdgdpbmaalcedaa.SlabI
open Go Go.RowKit
set_option maxHeartbeats 800000
set_option linter.unusedVariables false

/-- The thing of an occupied slot. -/
def thing (σ : SlabSt) (n : Nat) : Value := ((σ.get? n).map (·.1)).getD undef
/-- The things of the first k of a list, then zeros. -/
def filled (σ : SlabSt) (l : List Nat) (k : Nat) : List Value := (l.take k).map (thing σ) ++ List.replicate (l.length - k) (.int .i64 0)

theorem occ_held {σ : SlabSt} : ∀ (k : Nat), k ≤ σ.slots.length → ∀ n ∈ σ.occ k, ∃ m s, n = m + 1 ∧ m < σ.slots.length ∧ σ.slots[m]? = some s ∧ s.2 ≠ 0 ∧ thing σ n = s.1
  | 0, _, n, hn => by cases hn
  | k + 1, hk, n, hn => by
    cases hs : σ.get? ((k : Int) + 1) with
    | none =>
      rw [SlabSt.occ_none hs] at hn
      exact occ_held k (by omega) n hn
    | some s =>
      rw [SlabSt.occ_some hs] at hn
      rcases List.mem_append.1 hn with hn | hn
      · exact occ_held k (by omega) n hn
      · obtain rfl := List.mem_singleton.1 hn
        obtain ⟨m, hm, h1, h2, h3⟩ := SlabSt.get?_some hs
        obtain rfl : m = k := by omega
        exact ⟨m, s, rfl, h3, h1, h2, by unfold thing; rw [show ((m + 1 : Nat) : Int) = (m : Int) + 1 from rfl, hs]; rfl⟩

theorem filled_zero (σ : SlabSt) (l : List Nat) : filled σ l 0 = List.replicate l.length (.int .i64 0) := by simp [filled]
theorem filled_length (σ : SlabSt) (l : List Nat) (k : Nat) (h : k ≤ l.length) : (filled σ l k).length = l.length := by simp [filled]; omega
theorem filled_succ (σ : SlabSt) (l : List Nat) (k n : Nat) (h : l[k]? = some n) : filled σ l (k + 1) = (filled σ l k).set k (thing σ n) := by
  have hk := (List.getElem?_eq_some_iff.1 h).1
  unfold filled
  rw [List.take_add_one, h]
  rw [List.set_append_right _ _ (by simp; omega)]
  have e : k - (List.map (thing σ) (List.take k l)).length = 0 := by simp; omega
  rw [e]
  obtain ⟨r, hr⟩ : ∃ r, l.length - k = r + 1 := ⟨l.length - k - 1, by omega⟩
  rw [hr, show l.length - (k + 1) = r by omega, List.replicate_succ]
  simp

theorem cell_stays2 {w : World} {p q : Addr} {u v : Value} (h : w.cell? p = some v) (hne : p.block ≠ q.block) : (w.setCell q u).drew.cell? p = some v := by
  have : (w.setCell q u).drew.heap[p.block]? = w.heap[p.block]? := heap_setCell_other w q p.block u hne
  unfold World.cell? at h ⊢
  rw [this]
  exact h

set_option maxRecDepth 100000 in
theorem All_ok {w : World} {a : Nat} {F : Nat → Prop} {σ : SlabSt} (h : At OkV w a F σ) :
    Calls Try.prog 79 #[.pointer (some ⟨a, 0, none⟩)] w fun e w' => ∃ (b : Nat) (v : Value), e = .returned (.func (.func 104) #[] #[.pointer (some ⟨b, 0, none⟩), .pointer (some ⟨b + 2, 0, none⟩)]) ∧
      w.heap.size ≤ b ∧ w'.ownsRow w.heap.size 3 1 v (σ.occ σ.slots.length).length (ints (σ.occ σ.slots.length)) ∧ w'.cell? ⟨b, 0, none⟩ = some v ∧
      w'.cell? ⟨b + 2, 0, none⟩ = some (.slice (some ⟨b + 1, 0, none⟩) (σ.occ σ.slots.length).length (σ.occ σ.slots.length).length) ∧
      w'.heap[b + 1]? = some (.cells (filled σ (σ.occ σ.slots.length) (σ.occ σ.slots.length).length).toArray 3 (0, 0)) ∧ Adds w w' := by
  have HS := Lib.hid (Slots_ok h)
  have HAt : Aside (At OkV w a F σ) := h
  have hlen := h.1.len
  have hroom := h.1.room
  have hol := σ.occ_len σ.slots.length
  obtain ⟨L, hL⟩ : ∃ L, L = σ.occ σ.slots.length := ⟨_, rfl⟩
  obtain ⟨m, hm⟩ : ∃ m, m = L.length := ⟨_, rfl⟩
  have hm65 : m ≤ 65536 := by rw [hm, hL]; omega
  have hmk : ∀ w : World, (Instr.makeSlice 58 (.int .i64 (m : Int)) (.int .i64 (m : Int))).run Try.prog w = .ok (.slice (some ⟨w.heap.size, 0, none⟩) m m) (w.alloc (.cells (madeCells #[.int .i64 0] m) 3)) := fun w =>
    run_make_row' 58 3 (.int .i64 0) 8 Try.underlying58 (by kernel_rfl) rfl .i64 .i64 m (by omega) (by omega) w
  rw [← hL, ← hm] at HS ⊢
  have HLm : Aside (L = σ.occ σ.slots.length ∧ m = L.length) := ⟨hL, hm⟩
  clear hL hm hol h
  go_enter Try.func79, Try.ntmps79
  go_wp2_with fail
  refine HS.out.mono ?_; rintro e w1 ⟨v, rfl, hown, hA1⟩
  obtain ⟨ao, cap, rfl⟩ := owns_form hown
  have HO := Lib.hid hown
  clear hown
  go_wp2
  clear hmk
  go_loopg [14] m (fun g s14 wr => ∃ k : Nat, k ≤ m ∧ g = m - k ∧ s14 = .int .i64 k ∧ wr.heap[w1.heap.size + 1]? = some (.cells (filled σ L k).toArray 3 (0, 0)) ∧ wr.cell? ⟨w1.heap.size, 0, none⟩ = some (.slice ao m cap) ∧
    wr.cell? ⟨w1.heap.size + 1 + 1, 0, none⟩ = some (.slice (some ⟨w1.heap.size + 1, 0, none⟩) m m) ∧ Ch (fun j => j = w1.heap.size + 1) w1 wr)
  case atStart =>
    refine ⟨0, Nat.zero_le _, rfl, rfl, ?_, row_cell (row_alloc (row_alloc (heap_alloc_new _ _) _) _) rfl, ?_, (((Ch.refl _ _).alloc _).alloc _).alloc _⟩
    · rw [filled_zero, ← HLm.out.2]
      refine row_alloc ?_ _
      have := heap_alloc_new (w1.alloc (.cells #[.slice ao m cap] 58)) (.cells (madeCells #[.int .i64 0] m) 3)
      rw [World.size_alloc] at this
      rw [this]
      congr 2
      apply Array.ext'
      simp [toList_madeCells_one]
    · have := heap_alloc_new ((w1.alloc (.cells #[.slice ao m cap] 58)).alloc (.cells (madeCells #[.int .i64 0] m) 3)) (.cells #[.slice (some ⟨w1.heap.size + 1, 0, none⟩) m m] 58)
      rw [World.size_alloc, World.size_alloc] at this
      exact row_cell this rfl
  case round =>
    obtain ⟨k, hk, rfl, rfl, hrow, hc1, hc2, hch⟩ := hrel
    have HR := Lib.hid hrow
    have HC := Lib.hid hch
    by_cases hkm : k < m
    · obtain ⟨n, hn⟩ : ∃ n, L[k]? = some n := ⟨_, List.getElem?_eq_getElem (by rw [← HLm.out.2]; exact hkm)⟩
      obtain ⟨i, s, rfl, hil, hs, hs0, hth⟩ := occ_held σ.slots.length (Nat.le_refl _) n (by rw [← HLm.out.1]; exact List.mem_of_getElem? hn)
      have hAt1 := HAt.out.keep hA1 (fun _ _ h => h)
      have hAt2 := hAt1.keep HC.out (fun j hj e => by
        have := (HAt.out).2
        obtain ⟨_, _, _, _, _, _, _, _, hall⟩ := this
        have := hall j hj
        have := hA1.size
        omega)
      obtain ⟨g, cap', cur, vf', e1, e2, b1, b2, b3, b4, hm, o1, f1, f2, f3, f4, f5, hc, ht⟩ := slot_mem okV hAt2 hs
      obtain ⟨d0, d1, d2, d3, fz', hlt'⟩ := row4 e1
      have hok : OkV s.1 := hAt2.1.things s (List.mem_of_getElem? hs)
      have hv : wr.cell? ⟨g, i * 2, none⟩ = some s.1 := by
        refine row_cell e2 ?_
        obtain ⟨h1, _⟩ := hok
        rw [h1] at ht
        have := congrArg (fun l => l[0]?) ht
        simpa using this
      have hw1s := hA1.size
      have hag : a ≠ w1.heap.size + 1 := by
        have := f5 a f1
        obtain ⟨_, _, _, _, _, _, _, _, hall⟩ := HAt.out.2
        have := hall a (by obtain ⟨_, _, _, _, _, hF, _⟩ := HAt.out.2; exact hF)
        omega
      obtain ⟨g0, cp, cur0, hv0, hg0, q1, q2, q3, q4⟩ := owns_block HO.out (by omega)
      cases hv0
      have hg0lt := row_lt hg0
      have hg0' := HC.out.row hg0 (fun e => by omega)
      have hn0 : wr.cell? ⟨g0, k, none⟩ = some (.int .i64 ((i + 1 : Nat) : Int)) := row_cell hg0' (take_get q4 (by simp [ints, hn]))
      have hn0' : wr.cell? ⟨g0, k, none⟩ = some (.int .i64 ((i : Int) + 1)) := hn0
      have hkz : (k : Int) < (m : Int) := by omega
      have hkm' : (k : Int) ≤ 65535 := by omega
      have hi1 : (i : Int) < (σ.slots.length : Int) := by omega
      have hi2 : (i : Int) ≤ 65535 := by omega
      have hi3 : i ≤ 65535 := by omega
      have hwi : IntKind.i64.wrap (i : Int) = (i : Int) := by rw [IntKind.wrap]; simp [IntKind.signed, IntKind.bits]; omega
      have hfl : k < (filled σ L k).length := by rw [filled_length _ _ _ (by rw [← HLm.out.2]; omega), ← HLm.out.2]; exact hkm
      obtain ⟨old, hold⟩ : ∃ old, (filled σ L k).toArray[k]? = some old := ⟨(filled σ L k)[k]'hfl, by simp [hfl]⟩
      have hcell := row_cell hrow hold
      have hfz := row_free hrow k
      have hlR := row_lt hrow
      have HN := Lib.hid (And.intro hn hth)
      obtain ⟨tv, htv⟩ : ∃ tv, tv = s.1 := ⟨_, rfl⟩
      rw [← htv] at hv hok
      have HTV := Lib.hid htv
      have hone : tv.oneCell' = true := hok.2
      have hcl : tv.cells = #[tv] := hok.1
      clear hok ht hc b3 b4 e1 e2 hs hs0 hil hn hth htv hAt1 hAt2 o1 f4 f5 hrow hch hg0 hg0' q1 q2 q3 q4 hn0 hold f1 f2 f3
      go_wp2
      refine wp_region_plan (fun w0 => w0 = wr.drew) 11 [(0, false), (1, false), (2, false), (3, false), (4, false), (5, false), (6, false), (7, false), (8, false), (9, false), (10, false)] (by kernel_rfl) (by kernel_rfl) rfl ?_
      iterate 11 refine plan_look rfl rfl (fun w0 hS => (by subst hS; go_simp; try rfl)) ?_
      refine plan_end ?_
      simp only [List.drop_succ_cons, List.drop_zero, Act.put, List.setIfInBounds_toArray, List.set_cons_succ, List.set_cons_zero]
      have hfit : k + 1 ≤ (filled σ L k).toArray.size := Nat.succ_le_of_lt (by simpa using hfl)
      have hsz1 : (Try.prog.info? 3).map (·.size) = some 1 := by kernel_rfl
      go_wp2_with (first
        | ((with_reducible show wpList _ _ _ (⟨_, .store 3 _ _, _, _, _, _⟩ :: _) _ _); refine wpList_store_cell rfl 3 _ _ rfl (w1.heap.size + 1) k tv rfl rfl (row_drew HR.out) hfit ⟨hcl, hone⟩ hsz1 ?_))
      refine NoPanic.normal ?_
      go_wp2
      go_roundg (m - (k + 1))
      case measure => omega
      case rel =>
        refine ⟨k + 1, by omega, rfl, by go_num, ?_, ?_, ?_, (HC.out.setCell (p := ⟨w1.heap.size + 1, k, none⟩) (.inl rfl) _).drew⟩
        · have := row_drew (row_set_same HR.out k tv)
          rw [this, filled_succ σ L k (i + 1) HN.out.1, HN.out.2, ← HTV.out]
          simp
        · refine cell_stays2 hc1 (by simp)
        · refine cell_stays2 hc2 (by simp)
    · obtain rfl : k = m := by omega
      have hkz : ¬ ((k : Int) < (k : Int)) := by omega
      clear hrow hch
      go_wp2
      go_ret
      refine ⟨w1.heap.size, by simp, hA1.size, _, ?_, hc1, hc2, HR.out, hA1.trans HC.out (fun j hj => .inr (by subst hj; have := hA1.size; omega))⟩
      refine HC.out.owns HO.out (fun j hj e => ?_)
      have := (HO.out.lt j hj).2
      omega

end Go.Proofs.Ytdgdpbmaalcedaa.SlabI
