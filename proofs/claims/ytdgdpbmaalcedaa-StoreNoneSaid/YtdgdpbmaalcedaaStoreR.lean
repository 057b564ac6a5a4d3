/- The contracts of store.Store, part two: what a store tells of a handle. -/
import Derived.Test.YtdgdpbmaalcedaaStore
namespace Go.Proofs.Ytdgdpbmaalcedaa.Store
open Go Go.RowKit Go.Proofs.Ytdgdpbmaalcedaa
set_option maxHeartbeats 1600000
set_option linter.unusedVariables false

/-- What is at hand of a node that was told. -/
theorem told {w : World} {s : Nat} {F : Nat → Prop} {σ : SlabSt Nd} (h : At w s F σ) (n : Int) : ∃ N Z : Array Value, N = (nd σ n).cells ∧ (N.size = 103 ∧ ∀ v ∈ N.toList, v.oneCell' = true) ∧ ((Try.prog.info? 124).bind (·.zero) = some (.agg Z) ∧ Z.size = 103) :=
  ⟨_, _, rfl, ⟨Nd.cells_size (h.ok n), Nd.cells_one (h.ok n)⟩, zeroN, rfl⟩

theorem Kind_ok {w : World} {s : Nat} {F : Nat → Prop} {σ : SlabSt Nd} (h : At w s F σ) (n : Int) :
    Calls Try.prog 51 #[.pointer (some ⟨s, 0, none⟩), .int .i64 n] w fun e w' => e = .returned (.int .u8 ((nd σ n).kind : Nat)) ∧ Adds w w' := by
  have hok := h.ok n
  have hg := get_ok h n
  obtain ⟨N, Z, hN, hn, hz⟩ := told h n
  rw [← hN] at hg
  have k0 : N[32]? = some (.int .u8 ((nd σ n).kind : Nat)) := by rw [hN]; exact Nd.at_kind hok
  have HG := Lib.hid hg
  have HN := Lib.hid hn
  have HZ := Lib.hid hz
  clear hok hg hN hn hz h
  go_enter Try.func51, Try.ntmps51
  go_wp2_with fail
  refine HG.out.mono ?_; rintro e w1 ⟨rfl, hc1⟩
  have c0 := row_cell (row_setRow_same (heap_alloc_new w1 (.cells Z 124)) N) k0
  have C1 := Lib.hid hc1
  clear hc1 k0
  go_wp2_with (first | ((with_reducible show wpList _ _ _ (⟨_, .alloc 124, _, _, _, _⟩ :: _) _ _); refine wpList_alloc_is rfl 124 rfl (.agg Z) HZ.out.1 ?_; dsimp only [Value.cells]; try simp only [World.size_alloc]) | ((with_reducible show wpList _ _ _ (⟨_, .store 124 (.tmp 5) _, _, _, _, _⟩ :: _) _ _); go_must (refine wpList_store_part rfl 124 _ _ rfl w1.heap.size 0 N rfl rfl (heap_alloc_new _ _) (by rw [sizeN, HN.out.1]) (by rw [HN.out.1, HZ.out.2]; omega) HN.out.2 N (by rw [splice_all _ _ (by rw [Array.length_toList, Array.length_toList, HN.out.1, HZ.out.2])]) ?_)))
  go_ret
  exact ⟨rfl, (C1.out.alloc _).setRow (.inr C1.out.size) _⟩

theorem Size_ok {w : World} {s : Nat} {F : Nat → Prop} {σ : SlabSt Nd} (h : At w s F σ) (n : Int) :
    Calls Try.prog 50 #[.pointer (some ⟨s, 0, none⟩), .int .i64 n] w fun e w' => e = .returned (.int .i64 (nd σ n).size) ∧ Adds w w' := by
  have hok := h.ok n
  have hg := get_ok h n
  obtain ⟨N, Z, hN, hn, hz⟩ := told h n
  rw [← hN] at hg
  have k0 : N[101]? = some (.int .i64 (nd σ n).size) := by rw [hN]; exact Nd.at_size hok
  have HG := Lib.hid hg
  have HN := Lib.hid hn
  have HZ := Lib.hid hz
  clear hok hg hN hn hz h
  go_enter Try.func50, Try.ntmps50
  go_wp2_with fail
  refine HG.out.mono ?_; rintro e w1 ⟨rfl, hc1⟩
  have c0 := row_cell (row_setRow_same (heap_alloc_new w1 (.cells Z 124)) N) k0
  have C1 := Lib.hid hc1
  clear hc1 k0
  go_wp2_with (first | ((with_reducible show wpList _ _ _ (⟨_, .alloc 124, _, _, _, _⟩ :: _) _ _); refine wpList_alloc_is rfl 124 rfl (.agg Z) HZ.out.1 ?_; dsimp only [Value.cells]; try simp only [World.size_alloc]) | ((with_reducible show wpList _ _ _ (⟨_, .store 124 (.tmp 5) _, _, _, _, _⟩ :: _) _ _); go_must (refine wpList_store_part rfl 124 _ _ rfl w1.heap.size 0 N rfl rfl (heap_alloc_new _ _) (by rw [sizeN, HN.out.1]) (by rw [HN.out.1, HZ.out.2]; omega) HN.out.2 N (by rw [splice_all _ _ (by rw [Array.length_toList, Array.length_toList, HN.out.1, HZ.out.2])]) ?_)))
  go_ret
  exact ⟨rfl, (C1.out.alloc _).setRow (.inr C1.out.size) _⟩

theorem Held_ok {w : World} {s : Nat} {F : Nat → Prop} {σ : SlabSt Nd} (h : At w s F σ) (n : Int) :
    Calls Try.prog 45 #[.pointer (some ⟨s, 0, none⟩), .int .i64 n] w fun e w' => e = .returned (.int .i64 (nd σ n).held) ∧ Adds w w' := by
  have hok := h.ok n
  have hg := get_ok h n
  obtain ⟨N, Z, hN, hn, hz⟩ := told h n
  rw [← hN] at hg
  have k0 : N[102]? = some (.int .i64 (nd σ n).held) := by rw [hN]; exact Nd.at_held hok
  have HG := Lib.hid hg
  have HN := Lib.hid hn
  have HZ := Lib.hid hz
  clear hok hg hN hn hz h
  go_enter Try.func45, Try.ntmps45
  go_wp2_with fail
  refine HG.out.mono ?_; rintro e w1 ⟨rfl, hc1⟩
  have c0 := row_cell (row_setRow_same (heap_alloc_new w1 (.cells Z 124)) N) k0
  have C1 := Lib.hid hc1
  clear hc1 k0
  go_wp2_with (first | ((with_reducible show wpList _ _ _ (⟨_, .alloc 124, _, _, _, _⟩ :: _) _ _); refine wpList_alloc_is rfl 124 rfl (.agg Z) HZ.out.1 ?_; dsimp only [Value.cells]; try simp only [World.size_alloc]) | ((with_reducible show wpList _ _ _ (⟨_, .store 124 (.tmp 5) _, _, _, _, _⟩ :: _) _ _); go_must (refine wpList_store_part rfl 124 _ _ rfl w1.heap.size 0 N rfl rfl (heap_alloc_new _ _) (by rw [sizeN, HN.out.1]) (by rw [HN.out.1, HZ.out.2]; omega) HN.out.2 N (by rw [splice_all _ _ (by rw [Array.length_toList, Array.length_toList, HN.out.1, HZ.out.2])]) ?_)))
  go_ret
  exact ⟨rfl, (C1.out.alloc _).setRow (.inr C1.out.size) _⟩

theorem Has_ok {w : World} {s : Nat} {F : Nat → Prop} {σ : SlabSt Nd} (h : At w s F σ) (n : Int) :
    Calls Try.prog 96 #[.pointer (some ⟨s, 0, none⟩), .int .i64 n] w fun e w' => e = .returned (.bool (has σ n)) ∧ Adds w w' := by
  have hok := h.ok n
  have hg := get_ok h n
  obtain ⟨N, Z, hN, hn, hz⟩ := told h n
  rw [← hN] at hg
  have HG := Lib.hid hg
  have HN := Lib.hid hn
  have HZ := Lib.hid hz
  clear hok hg hN hn hz h
  go_enter Try.func96, Try.ntmps96
  go_wp2_with fail
  refine HG.out.mono ?_; rintro e w1 ⟨rfl, hc1⟩
  have C1 := Lib.hid hc1
  clear hc1
  go_wp2_with (first | ((with_reducible show wpList _ _ _ (⟨_, .alloc 124, _, _, _, _⟩ :: _) _ _); refine wpList_alloc_is rfl 124 rfl (.agg Z) HZ.out.1 ?_; dsimp only [Value.cells]; try simp only [World.size_alloc]) | ((with_reducible show wpList _ _ _ (⟨_, .store 124 (.tmp 5) _, _, _, _, _⟩ :: _) _ _); go_must (refine wpList_store_part rfl 124 _ _ rfl w1.heap.size 0 N rfl rfl (heap_alloc_new _ _) (by rw [sizeN, HN.out.1]) (by rw [HN.out.1, HZ.out.2]; omega) HN.out.2 N (by rw [splice_all _ _ (by rw [Array.length_toList, Array.length_toList, HN.out.1, HZ.out.2])]) ?_)))
  go_ret
  exact ⟨rfl, (C1.out.alloc _).setRow (.inr C1.out.size) _⟩

theorem Sides_ok {w : World} {s : Nat} {F : Nat → Prop} {σ : SlabSt Nd} (h : At w s F σ) (n : Int) :
    Calls Try.prog 43 #[.pointer (some ⟨s, 0, none⟩), .int .i64 n] w fun e w' => e = .returned (.tuple #[.int .i64 (nd σ n).left, .int .i64 (nd σ n).right]) ∧ Adds w w' := by
  have hok := h.ok n
  have hg := get_ok h n
  obtain ⟨N, Z, hN, hn, hz⟩ := told h n
  rw [← hN] at hg
  have k0 : N[99]? = some (.int .i64 (nd σ n).left) := by rw [hN]; exact Nd.at_left hok
  have k1 : N[100]? = some (.int .i64 (nd σ n).right) := by rw [hN]; exact Nd.at_right hok
  have HG := Lib.hid hg
  have HN := Lib.hid hn
  have HZ := Lib.hid hz
  clear hok hg hN hn hz h
  go_enter Try.func43, Try.ntmps43
  go_wp2_with fail
  refine HG.out.mono ?_; rintro e w1 ⟨rfl, hc1⟩
  have c0 := row_cell (row_setRow_same (heap_alloc_new w1 (.cells Z 124)) N) k0
  have c1 := row_cell (row_setRow_same (heap_alloc_new w1 (.cells Z 124)) N) k1
  have C1 := Lib.hid hc1
  clear hc1 k0 k1
  go_wp2_with (first | ((with_reducible show wpList _ _ _ (⟨_, .alloc 124, _, _, _, _⟩ :: _) _ _); refine wpList_alloc_is rfl 124 rfl (.agg Z) HZ.out.1 ?_; dsimp only [Value.cells]; try simp only [World.size_alloc]) | ((with_reducible show wpList _ _ _ (⟨_, .store 124 (.tmp 6) _, _, _, _, _⟩ :: _) _ _); go_must (refine wpList_store_part rfl 124 _ _ rfl w1.heap.size 0 N rfl rfl (heap_alloc_new _ _) (by rw [sizeN, HN.out.1]) (by rw [HN.out.1, HZ.out.2]; omega) HN.out.2 N (by rw [splice_all _ _ (by rw [Array.length_toList, Array.length_toList, HN.out.1, HZ.out.2])]) ?_)))
  go_quiet (fail)
  go_wp2
  go_ret2
  exact ⟨rfl, ((C1.out.alloc _).setRow (.inr C1.out.size) _).drewN _⟩

def depth (σ : SlabSt Nd) (n : Int) : Int := if has σ n then (nd σ n).depth else -1
theorem Depth_ok {w : World} {s : Nat} {F : Nat → Prop} {σ : SlabSt Nd} (h : At w s F σ) (n : Int) :
    Calls Try.prog 49 #[.pointer (some ⟨s, 0, none⟩), .int .i64 n] w fun e w' => e = .returned (.int .i64 (depth σ n)) ∧ Adds w w' := by
  have hok := h.ok n
  have hg := get_ok h n
  obtain ⟨N, Z, hN, hn, hz⟩ := told h n
  rw [← hN] at hg
  have k0 : N[33]? = some (.int .i64 (nd σ n).depth) := by rw [hN]; exact Nd.at_depth hok
  unfold depth
  generalize has σ n = b at hg
  have HG := Lib.hid hg
  have HN := Lib.hid hn
  have HZ := Lib.hid hz
  clear hok hg hN hn hz h
  cases b
  all_goals
    go_enter Try.func49, Try.ntmps49
    go_wp2_with fail
    refine HG.out.mono ?_; rintro e w1 ⟨rfl, hc1⟩
    have c0 := row_cell (row_setRow_same (heap_alloc_new w1 (.cells Z 124)) N) k0
    have C1 := Lib.hid hc1
    clear hc1 k0
    go_wp2_with (first | ((with_reducible show wpList _ _ _ (⟨_, .alloc 124, _, _, _, _⟩ :: _) _ _); refine wpList_alloc_is rfl 124 rfl (.agg Z) HZ.out.1 ?_; dsimp only [Value.cells]; try simp only [World.size_alloc]) | ((with_reducible show wpList _ _ _ (⟨_, .store 124 (.tmp 5) _, _, _, _, _⟩ :: _) _ _); go_must (refine wpList_store_part rfl 124 _ _ rfl w1.heap.size 0 N rfl rfl (heap_alloc_new _ _) (by rw [sizeN, HN.out.1]) (by rw [HN.out.1, HZ.out.2]; omega) HN.out.2 N (by rw [splice_all _ _ (by rw [Array.length_toList, Array.length_toList, HN.out.1, HZ.out.2])]) ?_)))
    go_ret
    exact ⟨rfl, (C1.out.alloc _).setRow (.inr C1.out.size) _⟩

/-- Root: 0 for a root, else the error. -/
def rootErr (σ : SlabSt Nd) (n : Int) : Int := if n = 0 then 0 else if has σ n = false then 7 else if (nd σ n).kind = 2 ∧ (nd σ n).depth ≠ 0 then 2 else 0
set_option maxRecDepth 100000 in
theorem Root_ok {w : World} {s : Nat} {F : Nat → Prop} {σ : SlabSt Nd} (h : At w s F σ) (n : Int) :
    Calls Try.prog 40 #[.pointer (some ⟨s, 0, none⟩), .int .i64 n] w fun e w' => e = .returned (.int .i64 (rootErr σ n)) ∧ Adds w w' := by
  have hok := h.ok n
  have hg := get_ok h n
  obtain ⟨N, Z, hN, hn, hz⟩ := told h n
  rw [← hN] at hg
  have k0 : N[32]? = some (.int .u8 ((nd σ n).kind : Nat)) := by rw [hN]; exact Nd.at_kind hok
  have k1 : N[33]? = some (.int .i64 (nd σ n).depth) := by rw [hN]; exact Nd.at_depth hok
  obtain ⟨a, G, h1, h2⟩ := h
  have HR := Lib.hid h1
  have HG := Lib.hid hg
  have HN := Lib.hid hn
  have HZ := Lib.hid hz
  clear hok hg hN hn hz h1 h2
  by_cases h0 : n = 0
  · subst h0
    have e : rootErr σ 0 = 0 := rfl
    rw [e]
    clear e k0 k1
    go_enter Try.func40, Try.ntmps40
    go_wp2_with fail
    refine (none_no HR.out).mono ?_; rintro e w1 ⟨rfl, rfl⟩
    go_wp2
    go_ret
    exact ⟨rfl, Ch.refl _ _⟩
  have hn0 : (n == 0) = false := by simpa using h0
  by_cases hb : has σ n = false
  · have e : rootErr σ n = 7 := by unfold rootErr; rw [if_neg h0, if_pos hb]
    rw [hb] at HG
    rw [e]
    clear e hb k0 k1 h0
    go_enter Try.func40, Try.ntmps40
    go_wp2_with fail
    refine (none_no HR.out).mono ?_; rintro e w1 ⟨rfl, rfl⟩
    go_wp2_with fail
    refine HG.out.mono ?_; rintro e w1 ⟨rfl, hc1⟩
    have C1 := Lib.hid hc1
    clear hc1
    go_wp2_with (first | ((with_reducible show wpList _ _ _ (⟨_, .alloc 124, _, _, _, _⟩ :: _) _ _); refine wpList_alloc_is rfl 124 rfl (.agg Z) HZ.out.1 ?_; dsimp only [Value.cells]; try simp only [World.size_alloc]) | ((with_reducible show wpList _ _ _ (⟨_, .store 124 (.tmp 5) _, _, _, _, _⟩ :: _) _ _); go_must (refine wpList_store_part rfl 124 _ _ rfl w1.heap.size 0 N rfl rfl (heap_alloc_new _ _) (by rw [sizeN, HN.out.1]) (by rw [HN.out.1, HZ.out.2]; omega) HN.out.2 N (by rw [splice_all _ _ (by rw [Array.length_toList, Array.length_toList, HN.out.1, HZ.out.2])]) ?_)))
    go_ret
    exact ⟨rfl, (C1.out.alloc _).setRow (.inr C1.out.size) _⟩
  have hbt : has σ n = true := by simpa using hb
  rw [hbt] at HG
  have e : rootErr σ n = if (nd σ n).kind = 2 ∧ (nd σ n).depth ≠ 0 then 2 else 0 := by unfold rootErr; rw [if_neg h0, if_neg hb]
  rw [e]
  generalize (nd σ n).kind = kd at k0
  generalize (nd σ n).depth = dp at k1
  clear e hb hbt h0
  by_cases h2 : kd = 2
  · subst h2
    by_cases hd : dp = 0
    · subst hd
      go_enter Try.func40, Try.ntmps40
      go_wp2_with fail
      refine (none_no HR.out).mono ?_; rintro e w1 ⟨rfl, rfl⟩
      go_wp2_with fail
      refine HG.out.mono ?_; rintro e w1 ⟨rfl, hc1⟩
      have c0 := row_cell (row_setRow_same (heap_alloc_new w1 (.cells Z 124)) N) k0
      have c1 := row_cell (row_setRow_same (heap_alloc_new w1 (.cells Z 124)) N) k1
      have C1 := Lib.hid hc1
      clear hc1 k0 k1
      go_wp2_with (first | ((with_reducible show wpList _ _ _ (⟨_, .alloc 124, _, _, _, _⟩ :: _) _ _); refine wpList_alloc_is rfl 124 rfl (.agg Z) HZ.out.1 ?_; dsimp only [Value.cells]; try simp only [World.size_alloc]) | ((with_reducible show wpList _ _ _ (⟨_, .store 124 (.tmp 5) _, _, _, _, _⟩ :: _) _ _); go_must (refine wpList_store_part rfl 124 _ _ rfl w1.heap.size 0 N rfl rfl (heap_alloc_new _ _) (by rw [sizeN, HN.out.1]) (by rw [HN.out.1, HZ.out.2]; omega) HN.out.2 N (by rw [splice_all _ _ (by rw [Array.length_toList, Array.length_toList, HN.out.1, HZ.out.2])]) ?_)))
      go_ret
      exact ⟨rfl, (C1.out.alloc _).setRow (.inr C1.out.size) _⟩
    · have hdb : (dp != 0) = true := by simpa using hd
      have e : (if 2 = 2 ∧ dp ≠ 0 then (2 : Int) else 0) = 2 := if_pos ⟨rfl, hd⟩
      rw [e]
      clear e hd
      go_enter Try.func40, Try.ntmps40
      go_wp2_with fail
      refine (none_no HR.out).mono ?_; rintro e w1 ⟨rfl, rfl⟩
      go_wp2_with fail
      refine HG.out.mono ?_; rintro e w1 ⟨rfl, hc1⟩
      have c0 := row_cell (row_setRow_same (heap_alloc_new w1 (.cells Z 124)) N) k0
      have c1 := row_cell (row_setRow_same (heap_alloc_new w1 (.cells Z 124)) N) k1
      have C1 := Lib.hid hc1
      clear hc1 k0 k1
      go_wp2_with (first | ((with_reducible show wpList _ _ _ (⟨_, .alloc 124, _, _, _, _⟩ :: _) _ _); refine wpList_alloc_is rfl 124 rfl (.agg Z) HZ.out.1 ?_; dsimp only [Value.cells]; try simp only [World.size_alloc]) | ((with_reducible show wpList _ _ _ (⟨_, .store 124 (.tmp 5) _, _, _, _, _⟩ :: _) _ _); go_must (refine wpList_store_part rfl 124 _ _ rfl w1.heap.size 0 N rfl rfl (heap_alloc_new _ _) (by rw [sizeN, HN.out.1]) (by rw [HN.out.1, HZ.out.2]; omega) HN.out.2 N (by rw [splice_all _ _ (by rw [Array.length_toList, Array.length_toList, HN.out.1, HZ.out.2])]) ?_)))
      go_ret
      exact ⟨rfl, (C1.out.alloc _).setRow (.inr C1.out.size) _⟩
  · have hkb : (((kd : Nat) : Int) == 2) = false := by simp; omega
    have e : (if kd = 2 ∧ dp ≠ 0 then (2 : Int) else 0) = 0 := if_neg (fun h => h2 h.1)
    rw [e]
    clear e h2
    go_enter Try.func40, Try.ntmps40
    go_wp2_with fail
    refine (none_no HR.out).mono ?_; rintro e w1 ⟨rfl, rfl⟩
    go_wp2_with fail
    refine HG.out.mono ?_; rintro e w1 ⟨rfl, hc1⟩
    have c0 := row_cell (row_setRow_same (heap_alloc_new w1 (.cells Z 124)) N) k0
    have c1 := row_cell (row_setRow_same (heap_alloc_new w1 (.cells Z 124)) N) k1
    have C1 := Lib.hid hc1
    clear hc1 k0 k1
    go_wp2_with (first | ((with_reducible show wpList _ _ _ (⟨_, .alloc 124, _, _, _, _⟩ :: _) _ _); refine wpList_alloc_is rfl 124 rfl (.agg Z) HZ.out.1 ?_; dsimp only [Value.cells]; try simp only [World.size_alloc]) | ((with_reducible show wpList _ _ _ (⟨_, .store 124 (.tmp 5) _, _, _, _, _⟩ :: _) _ _); go_must (refine wpList_store_part rfl 124 _ _ rfl w1.heap.size 0 N rfl rfl (heap_alloc_new _ _) (by rw [sizeN, HN.out.1]) (by rw [HN.out.1, HZ.out.2]; omega) HN.out.2 N (by rw [splice_all _ _ (by rw [Array.length_toList, Array.length_toList, HN.out.1, HZ.out.2])]) ?_)))
    go_ret
    exact ⟨rfl, (C1.out.alloc _).setRow (.inr C1.out.size) _⟩

end Go.Proofs.Ytdgdpbmaalcedaa.Store
