/- The document's slab: New, Slots, Len, Take in one; rootcellarkit.SameInts. -/
import Derived.Test.YtdgdpbmaalcedaaRef6D
import Derived.Test.YtdgdpbmaalcedaaSlabOI
import Derived.Test.YtdgdpbmaalcedaaBytes
import Derived.Deep.LoopGhost
import Derived.Maps.AppendAt
namespace Go.Proofs.Ytdgdpbmaalcedaa.Ref6
open Go Go.RowKit
set_option maxHeartbeats 800000
set_option linter.unusedVariables false

abbrev Adds (w w' : World) : Prop := Ch (fun _ => False) w w'
theorem Take_ok {w : World} {a : Nat} {F : Nat → Prop} {σ : SlabSt} (h : At w a F σ) (hwf : σ.WF SlabI.OkV) (x : Int) :
    Calls Try.prog 62 #[.pointer (some ⟨a, 0, none⟩), .int .i64 x] w fun e w' => e = .returned (.tuple #[.int .i64 (σ.take (.int .i64 x)).1, .int .i64 (σ.take (.int .i64 x)).2.1]) ∧ Moved w w' a F (σ.take (.int .i64 x)).2.2 := by
  have hl := hwf.len
  have hr := hwf.room
  have hfl := hwf.free_le
  unfold SlabSt.take
  cases hg : σ.free.getLast? with
  | none =>
    have hfr : σ.free = [] := by simpa using hg
    have hu : σ.used = σ.slots.length := by simp [SlabSt.used, hfr]
    rw [hu]
    by_cases hx : σ.slots.length = σ.room
    · rw [if_pos hx]; exact Take_full h (by omega) x hfr hx
    · rw [if_neg hx]; exact Take_new h (by omega) x hfr (by omega)
  | some n =>
    obtain ⟨fr, hfr⟩ : ∃ fr, σ.free = fr ++ [n] := List.getLast?_eq_some_iff.1 hg
    have hn : n ∈ σ.free := by rw [hfr]; simp
    obtain ⟨q1, v, q2⟩ := hwf.free n hn
    have hlt := (List.getElem?_eq_some_iff.1 q2).1
    obtain ⟨k, rfl⟩ : ∃ k, n = k + 1 := ⟨n - 1, by omega⟩
    have hu : σ.used ≠ σ.room := by
      have : σ.free.length = fr.length + 1 := by rw [hfr]; simp
      unfold SlabSt.used
      omega
    rw [if_neg hu]
    have hc := Take_reuse h (by omega) x hfr (k := k) (by omega) (by omega)
    have e : σ.free.dropLast = fr := by rw [hfr, List.dropLast_concat]
    rw [e]
    simp only [show k + 1 - 1 = k by omega, show (((k + 1 : Nat)) : Int) = (k : Int) + 1 by omega]
    exact hc

theorem New_bad (n : Int) (w : World) (h : n < 1 ∨ 65536 < n) :
    Calls Try.prog 24 #[.int .i64 n] w fun e w' => e = .returned (.tuple #[.pointer none, .int .i64 2]) ∧ w = w' := by
  by_cases h1 : n < 1
  · clear h
    go_enter Try.func24, Try.ntmps24
    go_wp2
    go_ret2
    exact ⟨rfl, rfl⟩
  · have h2 : 65536 < n := by omega
    clear h
    go_enter Try.func24, Try.ntmps24
    go_wp2
    go_ret2
    exact ⟨rfl, rfl⟩
theorem New_ok (n : Nat) (w : World) (h1 : 1 ≤ n) (h2 : n ≤ 65536) :
    Calls Try.prog 24 #[.int .i64 n] w fun e w' => e = .returned (.tuple #[.pointer (some ⟨w.heap.size, 0, none⟩), .int .i64 0]) ∧ At w' w.heap.size (fun k => k = w.heap.size) ⟨n, [], []⟩ ∧ Adds w w' ∧ w'.heap.size = w.heap.size + 1 := by
  have n1 : ¬ (n : Int) < 1 := by omega
  have n2 : ¬ 65536 < (n : Int) := by omega
  clear h1 h2
  go_enter Try.func24, Try.ntmps24
  go_wp2
  go_ret2
  refine ⟨rfl, ⟨.slice none 0 0, .slice none 0 0, .slice none 0 0, [], heap_alloc_new _ _, World.ownsRow_nil _ _ _ _, fun m s hs => by simp at hs, World.ownsRow_nil _ _ _ _, World.ownsRow_nil _ _ _ _, rfl, (fun k hk => by cases hk), (fun k hk => by cases hk), (fun k hk => by cases hk), (fun k hk => by rw [hk]; simp)⟩, (Ch.refl _ _).alloc _, by simp⟩

def ints (l : List Nat) : List Value := l.map fun n => Value.int .i64 (n : Nat)
set_option maxRecDepth 100000 in
theorem Slots_ok {w : World} {a : Nat} {F : Nat → Prop} {σ : SlabSt} (h : At w a F σ) (hl : σ.slots.length ≤ 65536) :
    Calls Try.prog 75 #[.pointer (some ⟨a, 0, none⟩)] w fun e w' => ∃ v, e = .returned v ∧ w'.ownsRow w.heap.size 3 1 v (σ.occ σ.slots.length).length (ints (σ.occ σ.slots.length)) ∧ Adds w w' := by
  obtain ⟨i0, hi, hz0, hz1, hz2⟩ := SlabI.int_info
  have HAt := Lib.hid h
  obtain ⟨vT, vC, vF, ts, ho, ht⟩ := h.open
  obtain ⟨co, cc, hcv⟩ := owns_form ho.counts
  have hcells := ho.cells
  rw [hcv] at hcells
  have HC := Lib.hid hcells
  have HO := Lib.hid (And.intro ho hcv)
  have HI := Lib.hid (And.intro hi (And.intro hz0 (And.intro hz1 hz2)))
  clear h ho hcells hi hz0 hz1 hz2 ht hcv
  go_enter Try.func75, Try.ntmps75
  go_wp2
  go_loopg [3, 4] σ.slots.length (fun g s3 s4 wr => ∃ k : Nat, k ≤ σ.slots.length ∧ g = σ.slots.length - k ∧ s4 = .int .i64 k ∧ wr.ownsRow w.heap.size 3 1 s3 (σ.occ k).length (ints (σ.occ k)) ∧ Adds w wr)
  case atStart => exact ⟨0, Nat.zero_le _, rfl, rfl, World.ownsRow_nil _ _ _ _, Ch.refl _ _⟩
  case round =>
    obtain ⟨k, hk, rfl, rfl, hown, hA⟩ := hrel
    have HOW := Lib.hid hown
    have HAd := Lib.hid hA
    have d0 := hA.cell HC.out.1 id
    have d3 := hA.cell HC.out.2.2.2.1 id
    have hol := σ.occ_len k
    have hk65 : (k : Int) ≤ 65536 := by omega
    by_cases hkl : k < σ.slots.length
    · obtain ⟨s, hs⟩ : ∃ s, σ.slots[k]? = some s := ⟨_, List.getElem?_eq_getElem hkl⟩
      obtain ⟨gC, cC, hv, e1, e2, e3⟩ := own_cell HO.out.1.counts hkl (x := .int .i64 (s.2 : Nat)) (by simp [cnts, hs])
      rw [HO.out.2] at hv
      cases hv
      have e1' := hA.cell e1 id
      have hkz : (k : Int) < (σ.slots.length : Int) := by omega
      obtain ⟨c, hcv⟩ : ∃ c, c = s.2 := ⟨_, rfl⟩
      rw [← hcv] at e1'
      by_cases hz : s.2 = 0
      · have hoc : σ.occ (k + 1) = σ.occ k := by
          have : σ.get? ((k : Int) + 1) = none := by
            cases hq : σ.get? ((k : Int) + 1) with
            | none => rfl
            | some t =>
              obtain ⟨m, hm', ht', h0', _⟩ := SlabSt.get?_some hq
              obtain rfl : m = k := by omega
              rw [hs] at ht'; cases ht'; exact absurd hz h0'
          exact SlabSt.occ_none this
        have HOC := Lib.hid hoc
        have hc0 : c = 0 := by omega
        subst hc0
        have e4 : wr.cell? ⟨gC, k, none⟩ = some (.int .i64 0) := e1'
        clear hoc hs hz hcv hown hA e1 e2 e3 e1'
        go_wp2_with fail
        refine (none_no d0).mono ?_; rintro e w1 ⟨rfl, rfl⟩
        go_wp2
        go_roundg (σ.slots.length - (k + 1))
        case measure => omega
        case rel => exact ⟨k + 1, by omega, rfl, by go_num, by rw [HOC.out]; exact HOW.out, HAd.out⟩
      · have hoc : σ.occ (k + 1) = σ.occ k ++ [k + 1] := SlabSt.occ_some (SlabSt.get?_of hs hz)
        have HOC := Lib.hid hoc
        have hpos : 0 < (c : Int) := by omega
        have hsz := hA.size
        clear hoc hs hz hcv hown hA e1 e2 e3
        go_wp2_with fail
        refine (none_no d0).mono ?_; rintro e w1 ⟨rfl, rfl⟩
        go_wp2_with (first
          | (at_builtin; refine wpList_append_own_at _ rfl _ _ 58 rfl w.heap.size 3 i0 (.int .i64 0) 1 8 Try.underlying58 HI.out.1 HI.out.2.1 HI.out.2.2.1 HI.out.2.2.2 rfl (by decide) u3 _ _ rfl (HOW.out.alloc _) ⟨wr.heap.size, 0, none⟩ 1 1 [.int .i64 ((k + 1 : Nat) : Int)] rfl rfl (cell_one_new _ _ _) (by simp [Value.oneCell']) (by unfold maxLen; omega) (by omega) (by simp; omega) ?_; intro v' w1 hown' hgrow hnil hloc; have HN := Lib.hid (And.intro hown' hgrow); clear hown' hgrow hnil hloc))
        go_roundg (σ.slots.length - (k + 1))
        case measure => omega
        case rel =>
          refine ⟨k + 1, by omega, rfl, by go_num, ?_, (HAd.out.alloc _).grown HN.out.2 (fun j hj => .inr (HOW.out.lt j hj).1)⟩
          rw [HOC.out]
          simpa [ints] using HN.out.1
    · obtain rfl : k = σ.slots.length := by omega
      clear hown hA
      go_wp2_with fail
      refine (none_no d0).mono ?_; rintro e w1 ⟨rfl, rfl⟩
      go_wp2
      go_ret
      exact ⟨_, rfl, HOW.out, HAd.out⟩

theorem Len_ok {w : World} {a : Nat} {F : Nat → Prop} {σ : SlabSt} (h : At w a F σ) (hl : σ.slots.length ≤ 65536) :
    Calls Try.prog 77 #[.pointer (some ⟨a, 0, none⟩)] w fun e w' => e = .returned (.int .i64 ((σ.occ σ.slots.length).length : Nat)) ∧ Adds w w' := by
  have HS := Lib.hid (Slots_ok h hl)
  clear h
  go_enter Try.func77, Try.ntmps77
  go_wp2_with fail
  refine HS.out.mono ?_; rintro e w1 ⟨v, rfl, hown, hA⟩
  obtain ⟨ao, cap, rfl⟩ := owns_form hown
  have HA := Lib.hid hA
  clear hown hA
  go_wp2
  go_ret
  exact ⟨rfl, HA.out⟩

end Go.Proofs.Ytdgdpbmaalcedaa.Ref6
