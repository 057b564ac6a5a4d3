/- The closure that 'All' of a true slab of numbers hands back, its things as numbers. -/
import Derived.Test.YtdgdpbmaalcedaaSlabORI
import Derived.RangeFuncNested
import Derived.RangeFuncBound
import Derived.RangeFuncCalls
import Derived.RangeFuncLeaves
import Derived.Shelf.Abstract
import Derived.Shelf.RegionOpen
import Derived.OwnWalkIn
import Derived.TacticsInMore
import Derived.LoopNIn
import Derived.LoopIn
namespace Go.Proofs.Ytdgdpbmaalcedaa.SlabI
open Go Go.RowKit Go.Shelf
set_option maxHeartbeats 800000
set_option linter.unusedVariables false


set_option maxRecDepth 100000 in
theorem AllR_nums (F : Fence) (n : Nat) (h1 : F.fn 104) (hro : F.round = none) (hn : 1 ≤ n) (b base : Nat) (v : Value) (L : List Nat) (T : List Int) (hT : T.length = L.length) (hL : L.length ≤ 65536) (w : World)
    (hown : w.ownsRow base 3 1 v L.length (ints L)) (hc1 : w.cell? ⟨b, 0, none⟩ = some v) (hc2 : w.cell? ⟨b + 2, 0, none⟩ = some (.slice (some ⟨b + 1, 0, none⟩) L.length L.length)) (hrow : w.heap[b + 1]? = some (.cells (T.map (Value.int .i64)).toArray 3 (0, 0)))
    (hb : b + 2 < w.heap.size) :
    SeqStopsK (α := Nat × Int) F n Try.prog 104 #[.pointer (some ⟨b, 0, none⟩), .pointer (some ⟨b + 2, 0, none⟩)] (fun x => #[.int .i64 (x.1 : Nat), .int .i64 x.2]) (Below w.heap.size) (fun ys => ys = L.zip T) (fun pre => pre <+: L.zip T) L.length w := by
  intro l J Jx W hW hJ hJx hY h0
  have HY := Lib.hid hY
  obtain ⟨ao, cap, rfl⟩ := owns_form hown
  obtain ⟨m, hm⟩ : ∃ m, m = L.length := ⟨_, rfl⟩
  have hz : (L.zip T).length = m := by simp [hT, hm]
  have c1 : W.cell? ⟨b, 0, none⟩ = some (.slice ao m cap) := by rw [hm]; exact below_cell hW hc1 (by simp; omega)
  have HB := Lib.hid hW
  have HOW := Lib.hid hown
  have HM := Lib.hid hm
  have HZL := Lib.hid hz
  have hm65 : m ≤ 65536 := by omega
  rw [← hm] at hc2
  have HC2 := Lib.hid hc2
  have HROW := Lib.hid hrow
  clear hY hJ hJx hc1 hc2 hrow hown hm hz hW
  refine callsIn_of_wp Try.func104 rfl h1 ?_ hro
  simp only [Try.ntmps104, List.size_toArray, List.length_cons, List.length_nil, Nat.reduceAdd, Nat.reduceSub, Array.replicate_succ, Array.replicate_zero, List.push_toArray, List.append_toArray, List.nil_append, List.cons_append]
  gi_wp2
  gi_loopw [8] (fun i wr => ∃ k : Nat, k ≤ m ∧ i = .int .i64 k ∧ J ((L.zip T).take k) wr ∧ Below w.heap.size w wr) (fun i _ => m - (intOf i).toNat)
  case atStart => exact ⟨0, Nat.zero_le _, rfl, h0, HB.out⟩
  case round =>
    obtain ⟨k, hk, rfl, hJs, hnx⟩ := hrel
    have HJ := Lib.hid hJs
    have HX := Lib.hid hnx
    by_cases hlt : k < m
    · obtain ⟨x, hx⟩ : ∃ x, L[k]? = some x := ⟨_, List.getElem?_eq_getElem (by rw [← HM.out]; exact hlt)⟩
      obtain ⟨tv, htv⟩ : ∃ tv, T[k]? = some tv := ⟨_, List.getElem?_eq_getElem (by rw [hT, ← HM.out]; exact hlt)⟩
      have hxz : (L.zip T)[k]? = some (x, tv) := by rw [List.getElem?_zip_eq_some]; exact ⟨hx, htv⟩
      have htk : (L.zip T).take (k + 1) = (L.zip T).take k ++ [(x, tv)] := by rw [List.take_add_one, hxz]; rfl
      have HT := Lib.hid htk
      obtain ⟨fn, tmps, assign, body, hy, hR⟩ := HY.out ((L.zip T).take k) (x, tv) wr hJs (by rw [List.length_take, HZL.out, ← HM.out]; omega)
      dsimp only at hy
      obtain ⟨g0, cp, cur0, hv0, hg0, q1, q2, q3, q4⟩ := owns_block HOW.out (by rw [← HM.out]; omega)
      cases hv0
      have hn0 : wr.cell? ⟨g0, k, none⟩ = some (.int .i64 (x : Int)) := below_cell hnx (row_cell hg0 (take_get q4 (by simp [ints, hx]))) (row_lt hg0)
      have d2 := below_cell hnx HC2.out hb
      have d3 : wr.cell? ⟨b + 1, k, none⟩ = some (.int .i64 tv) := below_cell hnx (row_cell HROW.out (by simp [htv])) (by simp; omega)
      clear hx htv hxz htk hJs hnx hg0 q1 q2 q3 q4 c1
      gi_wp2
      refine hR.mono ?_
      rintro e W3 (⟨rfl, hJ3, hk3⟩ | ⟨rfl, hJx3⟩)
      · gi_wp2
        go_roundw
        case rel => exact ⟨k + 1, by omega, by simp, by rw [HT.out]; exact hJ3, HX.out.trans hk3⟩
        case measure => simp [intOf]; omega
      · gi_wp2
        refine bodyPost_ret (results_none rfl _ _ _) rfl ?_
        exact ⟨⟨_, rfl⟩, .inr ⟨_, HT.out ▸ List.take_prefix _ _, hJx3⟩⟩
    · obtain rfl : k = m := by omega
      gi_wp2
      go_end0
      exact ⟨⟨_, rfl⟩, .inl ⟨_, by rw [List.take_of_length_le (by rw [HZL.out]; exact Nat.le_refl _)], HJ.out⟩⟩

end Go.Proofs.Ytdgdpbmaalcedaa.SlabI
