/- SlabNone: all is answered as of no slab. -/
import Derived.Test.YtdgdpbmaalcedaaSlabZRI
import Derived.Test.YtdgdpbmaalcedaaKnown6
namespace Go.Proofs.Ytdgdpbmaalcedaa
open Go Go.RowKit Go.Shelf
set_option maxHeartbeats 1600000
set_option linter.unusedVariables false

theorem Cnt0.cell_add {w w' : World} (h : SlabI.Adds w w') {p : Addr} {v : Value} (hc : w.cell? p = some v) : w'.cell? p = some v := by
  have hlt : p.block < w.heap.size := by
    unfold World.cell? at hc
    cases hq : w.heap[p.block]? with
    | none => simp only [hq] at hc; cases hc
    | some o => exact row_lt hq
  have := h.block p.block hlt id
  unfold World.cell? at hc ⊢
  rw [this]
  exact hc
theorem SlabI.NoSlab.keep {w w' : World} {v : Value} (h : SlabI.NoSlab w v) (ha : SlabI.Adds w w') : SlabI.NoSlab w' v := by
  rcases h with h | ⟨a, h, hc⟩
  · exact .inl h
  · refine .inr ⟨a, h, ?_⟩
    have hlt : a < w.heap.size := by
      unfold World.cell? at hc
      cases hq : w.heap[a]? with
      | none => simp only [hq] at hc; cases hc
      | some o => exact row_lt hq
    have := ha.block a hlt id
    unfold World.cell? at hc ⊢
    simp only [this] at hc ⊢
    exact hc

set_option maxRecDepth 100000 in
theorem none6 {w : World} {v : Value} (h : SlabI.NoSlab w v) (kd sl x : Int) :
    Calls Try.prog 27 #[v, .agg #[.int .i64 kd, .int .i64 sl, .int .i64 x]] w fun e w' => e = .returned (.bool true) ∧ Below w.heap.size w w' := by
  have H1 : ∀ o, SlabI.NoSlab (w.alloc o) v := fun o => h.keep ((Ch.refl _ _).alloc o)
  refine (callsIn_wide (n := 4)).1 ?_
  refine callsIn_of_wp_marks Try.func27 rfl trivial ?_ rfl
  simp only [Try.ntmps27, List.size_toArray, List.length_cons, List.length_nil, Nat.reduceAdd, Nat.reduceSub, Array.replicate_succ, Array.replicate_zero, List.push_toArray, List.append_toArray, List.nil_append, List.cons_append]
  have HN := Lib.hid (H1 (.cells #[.int .i64 kd, .int .i64 sl, .int .i64 x] 40))
  clear h H1
  gi_wp2_with fail
  refine ⟨trivial, (callsIn_wide.2 (SlabI.Take_z HN.out _)).mono ?_⟩; rintro e w1 ⟨rfl, rfl⟩
  gi_wp2_with fail
  refine ⟨trivial, (callsIn_wide.2 (SlabI.Drop_z HN.out _)).mono ?_⟩; rintro e w1 ⟨rfl, rfl⟩
  gi_wp2_with fail
  refine ⟨trivial, (callsIn_wide.2 (SlabI.Get_z HN.out _)).mono ?_⟩; rintro e w1 ⟨rfl, rfl⟩
  gi_wp2_with fail
  refine ⟨trivial, (callsIn_wide.2 (SlabI.All_z HN.out)).mono ?_⟩; rintro e w5 ⟨rfl, hc5, ha5⟩
  rw [World.size_alloc] at hc5
  have hs5 := ha5.size
  rw [World.size_alloc] at hs5
  obtain ⟨w6, hw6⟩ : ∃ w6, w6 = w5.alloc (.cells #[.int .i64 0] 3) := ⟨_, rfl⟩
  have hc6 : w6.cell? ⟨w.heap.size + 1, 0, none⟩ = some (.slice none 0 0) := by rw [hw6]; exact Cnt0.cell_add ((Ch.refl _ _).alloc _) hc5
  have HZ := Lib.hid (SlabI.AllR_z Fence.wide 3 trivial rfl (by omega) (w.heap.size + 1) (w.heap.size + 1 + 2) w6 hc6)
  have hq : ∀ (w : World) (b c : Value), (Go.binOp BinOp.eql 117 (Value.func (Fn.func 104) #[] #[b, c]) Value.nilFunc).run Try.prog w = Result.ok (Value.bool false) w := fun w b c => by kernel_rfl
  have HW6 := Lib.hid hw6
  have HA5 := Lib.hid ha5
  clear hc6 hw6 hc5 ha5
  gi_wp2_with fail
  rw [← HW6.out]
  refine wpIn_rangeFunc_ownF (α := Empty) rfl (by omega) (gf := 104) rfl trivial (enters_of Try.func104 (by kernel_rfl) rfl) HZ.out belowK_t (belowK_b (Nat.le_refl _)) (Below.refl _ _) (fun x => nomatch x)
    (fun pre W => Below w6.heap.size w6 W) (fun _ _ _ => False) (ownFrom_below (Nat.le_refl _) (Nat.le_refl _)) (fun _ _ _ _ _ hs _ _ => hs) (Below.refl _ _) (fun x => nomatch x) (fun _ x => nomatch x) (fun _ _ x => nomatch x) ?done ?stop
  case done =>
    rintro D ys W hD rfl hB hK
    have hA6 : SlabI.Adds w5 w6 := by rw [HW6.out]; exact (Ch.refl _ _).alloc _
    have hAW : SlabI.Adds w6 W := (Ch.of_below hB).mono (fun k hk hf => by omega)
    have hA5W : SlabI.Adds w5 W := hA6.trans hAW (fun _ h => h.elim)
    have hb5 := HA5.out.trans hA5W (fun _ h => h.elim)
    have hrow := hb5.row (heap_alloc_new _ _) id
    have e1 := row_cell hrow (i := 1) rfl
    have e2 := row_cell hrow (i := 2) rfl
    have e5 : W.cell? ⟨w5.heap.size, 0, none⟩ = some (.int .i64 0) := by
      refine Cnt0.cell_add hAW ?_
      rw [HW6.out]
      exact row_cell (heap_alloc_new _ _) rfl
    have hN := HN.out.keep hb5
    have HNW := Lib.hid hN
    have hbel : Below w.heap.size w W := (((Ch.refl (fun _ => False) w).alloc (.cells #[.int .i64 kd, .int .i64 sl, .int .i64 x] 40)).trans hb5 (fun _ h => h.elim)).below (Nat.le_refl _) (fun _ h => h.elim)
    have HBEL := Lib.hid hbel
    have HK := Lib.hid hK
    have HD := Lib.hid hD
    have hs6 := hA6.size
    have HSZ := Lib.hid (show w.heap.size ≤ D by omega)
    clear hA6 hAW hA5W hb5 hrow hN hbel hK hD hB hq
    gi_wp2_with fail
    refine ⟨trivial, (callsIn_wide.2 (SlabI.Hold_z HNW.out _)).mono ?_⟩; rintro e w1 ⟨rfl, rfl⟩
    gi_wp2_with fail
    refine ⟨trivial, (callsIn_wide.2 (SlabI.Set_z HNW.out _ _)).mono ?_⟩; rintro e w1 ⟨rfl, rfl⟩
    gi_wp2_with fail
    refine ⟨trivial, (callsIn_wide.2 (SlabI.Count_z HNW.out _)).mono ?_⟩; rintro e w1 ⟨rfl, rfl⟩
    gi_wp2_with fail
    refine ⟨trivial, (callsIn_wide.2 (SlabI.Len_z HNW.out)).mono ?_⟩; rintro e w1 ⟨rfl, rfl⟩
    gi_wp2_with fail
    refine ⟨trivial, (callsIn_wide.2 (SlabI.Room_z HNW.out)).mono ?_⟩; rintro e w1 ⟨rfl, rfl⟩
    gi_wp2_with fail
    refine ⟨trivial, (callsIn_wide.2 (SlabI.Slots_z HNW.out)).mono ?_⟩; rintro e w1 ⟨rfl, rfl⟩
    gi_wp2
    refine ⟨by simp, .inl ⟨_, _, rfl, run_takeDeferred HK.out, ?_⟩⟩
    exact ⟨_, results_tmp rfl _ _ _, rfl, HBEL.out.trans (belowK_b (w := w) (Nat.le_refl _) W D _ _ HSZ.out HK.out rfl rfl)⟩
  case stop =>
    rintro D c pre W _ h
    exact h.elim

end Go.Proofs.Ytdgdpbmaalcedaa
