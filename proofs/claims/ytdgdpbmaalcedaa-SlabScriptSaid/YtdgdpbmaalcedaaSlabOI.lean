/- The occupied slots, in their order: 'Slots'. -/
import Derived.Test.YtdgdpbmaalcedaaSlabGI
import Derived.Test.YtdgdpbmaalcedaaSlabM2
import Derived.Deep.LoopGhost
import Derived.Maps.AppendAt
namespace Go.Proofs.Ytdgdpbmaalcedaa.SlabI
open Go Go.RowKit
set_option maxHeartbeats 800000
set_option linter.unusedVariables false
def ints (l : List Nat) : List Value := l.map fun n => Value.int .i64 (n : Nat)

set_option maxRecDepth 100000 in
theorem Slots_ok {w : World} {a : Nat} {F : Nat → Prop} {σ : SlabSt} (h : At OkV w a F σ) :
    Calls Try.prog 73 #[.pointer (some ⟨a, 0, none⟩)] w fun e w' => ∃ v, e = .returned v ∧ w'.ownsRow w.heap.size 3 1 v (σ.occ σ.slots.length).length (ints (σ.occ σ.slots.length)) ∧ Adds w w' := by
  have hr := h.1.room
  have hl := h.1.len
  obtain ⟨i0, hi, hz0, hz1, hz2⟩ := int_info
  have HA := Aside.out (p := At OkV w a F σ) h
  have HAt : Aside (At OkV w a F σ) := h
  obtain ⟨h0, vs, vf, h1, h2, h3, h4, h5, h6, h7⟩ := h
  obtain ⟨ao, cap, rfl⟩ := owns_form h2
  obtain ⟨d0, d1, d2, d3, fz, hlt⟩ := row4 h1
  clear h0 h2 h3 h4 h5 h6 h7 HA
  go_enter Try.func73, Try.ntmps73
  go_wp2_with fail
  refine (none_no _ _ (σ.room : Int) (by go_simp) (by omega)).mono ?_; rintro e w1 ⟨rfl, rfl⟩
  go_wp2
  go_loopg [3, 13] σ.slots.length (fun g s3 s13 wr => ∃ k : Nat, k ≤ σ.slots.length ∧ g = σ.slots.length - k ∧ s13 = .int .i64 k ∧ wr.ownsRow w.heap.size 3 1 s3 (σ.occ k).length (ints (σ.occ k)) ∧ Adds w wr)
  case atStart => exact ⟨0, Nat.zero_le _, rfl, rfl, World.ownsRow_nil _ _ _ _, Ch.refl _ _⟩
  case round =>
    obtain ⟨k, hk, rfl, rfl, hown, hA⟩ := hrel
    have HO : Aside (wr.ownsRow w.heap.size 3 1 u3 (σ.occ k).length (ints (σ.occ k))) := hown
    have hAt := HAt.out.keep hA (fun _ _ h => h)
    by_cases hkl : k < σ.slots.length
    · obtain ⟨s, hs⟩ : ∃ s, σ.slots[k]? = some s := ⟨_, List.getElem?_eq_getElem hkl⟩
      obtain ⟨g, cap', cur, vf', e1, e2, b1, b2, b3, b4, hm, o1, f1, f2, f3, f4, f5, hc, ht⟩ := slot_mem okV hAt hs
      obtain ⟨c0, c1, c2, c3, fz', hlt'⟩ := row4 e1
      have hcc := row_cell e2 hc
      have hlg := row_lt e2
      have hkz : (k : Int) < (σ.slots.length : Int) := by omega
      have hk65 : (k : Int) ≤ 65535 := by omega
      have hk65' : k ≤ 65535 := by omega
      have hol := σ.occ_len k
      have HOL := Aside.out (p := True) trivial
      by_cases hz : s.2 = 0
      · have ho : σ.occ (k + 1) = σ.occ k := by
          have : σ.get? ((k : Int) + 1) = none := by
            cases hq : σ.get? ((k : Int) + 1) with
            | none => rfl
            | some t =>
              obtain ⟨m, hm', ht', h0', _⟩ := SlabSt.get?_some hq
              obtain rfl : m = k := by omega
              rw [hs] at ht'; cases ht'; exact absurd hz h0'
          exact SlabSt.occ_none this
        have HOC : Aside (σ.occ (k + 1) = σ.occ k) := ho
        rw [hz] at hcc
        have hcc' : wr.cell? ⟨g, k * 2 + 1, none⟩ = some (.int .i64 0) := hcc
        clear ho hs hc ht b4 hown hAt o1 e1 e2 hcc
        go_wp2
        go_roundg (σ.slots.length - (k + 1))
        case measure => omega
        case rel => exact ⟨k + 1, by omega, rfl, by go_num, by rw [HOC.out]; exact HO.out, hA⟩
      · have ho : σ.occ (k + 1) = σ.occ k ++ [k + 1] := by
          exact SlabSt.occ_some (SlabSt.get?_of hs hz)
        have HOC : Aside (σ.occ (k + 1) = σ.occ k ++ [k + 1]) := ho
        have hpos : 0 < (s.2 : Int) := by omega
        have hpos' : 0 < s.2 := by omega
        have hsz := hA.size
        obtain ⟨c, hcv⟩ : ∃ c, c = s.2 := ⟨_, rfl⟩
        rw [← hcv] at hpos hpos' hcc
        clear ho hs hc ht b4 hown hAt o1 e1 e2 hz hcv
        go_wp2_with (first
          | (at_builtin; refine wpList_append_own_at _ rfl _ _ 58 rfl w.heap.size 3 i0 (.int .i64 0) 1 8 Try.underlying58 hi hz0 hz1 hz2 rfl (by decide) _ _ _ rfl (HO.out.alloc _) ⟨wr.heap.size, 0, none⟩ 1 1 [.int .i64 ((k + 1 : Nat) : Int)] rfl rfl (cell_one_new _ _ _) (by simp [Value.oneCell']) (by unfold maxLen; omega) (by omega) (by simp; omega) ?_; intro v' w1 hown' hgrow hnil hloc))
        go_roundg (σ.slots.length - (k + 1))
        case measure => omega
        case rel =>
          refine ⟨k + 1, by omega, rfl, by go_num, ?_, (hA.alloc _).grown hgrow (fun j hj => .inr (HO.out.lt j hj).1)⟩
          rw [HOC.out]
          simpa [ints] using hown'
    · obtain rfl : k = σ.slots.length := by omega
      have hkz : ¬ ((σ.slots.length : Int) < (σ.slots.length : Int)) := by omega
      clear hown
      go_wp2
      go_ret
      exact ⟨_, rfl, HO.out, hA⟩

end Go.Proofs.Ytdgdpbmaalcedaa.SlabI
