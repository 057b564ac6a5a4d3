/- The contracts of store.Store, part five: how often callers hold a node; New. -/
import Derived.Test.YtdgdpbmaalcedaaStoreV
namespace Go.Proofs.Ytdgdpbmaalcedaa.Store
open Go Go.RowKit Go.Proofs.Ytdgdpbmaalcedaa Go.Proofs.Ytdgdpbmaalcedaa.ShaW Go.Proofs.Ytdgdpbmaalcedaa.Path
set_option maxHeartbeats 1600000
set_option linter.unusedVariables false

def withHeld (n : Nd) (x : Int) : Nd := { n with held := x }
/-- callers(h, by). -/
def bump (σ : SlabSt Nd) (h b : Int) : SlabSt Nd := if has σ h then (σ.set h (withHeld (nd σ h) (wrap64 ((nd σ h).held + b)))).2 else σ
theorem withHeld_ok {n : Nd} (h : n.Ok) (x : Int) : (withHeld n x).Ok := ⟨h.digest, h.key, h.hash, h.addr, h.val⟩
theorem set_slots {σ : SlabSt Nd} {h : Int} {x : Nd × Nat} (hx : σ.get? h = some x) (y : Nd) : ∃ m : Nat, h = m + 1 ∧ σ.slots[m]? = some x ∧ (σ.set h y).2.slots = σ.slots.set m (y, x.2) := by
  obtain ⟨m, hm, hs, h0, hl⟩ := SlabSt.get?_some hx
  refine ⟨m, hm, hs, ?_⟩
  unfold SlabSt.set
  rw [hx]
  simp only [SlabSt.setAt]
  rw [hm, show ((m : Int) + 1 - 1).toNat = m by omega]

set_option maxRecDepth 100000 in
theorem callers_ok {w : World} {s : Nat} {F : Nat → Prop} {σ : SlabSt Nd} (h : At w s F σ) (n b : Int) :
    Calls Try.prog 87 #[.pointer (some ⟨s, 0, none⟩), .int .i64 n, .int .i64 b] w fun e w' => (∃ v, e = .returned v) ∧ Moved w w' s F (bump σ n b) := by
  have hok := h.ok n
  have hg := get_ok h n
  obtain ⟨N, Z, hN, hn, hz⟩ := told h n
  rw [← hN] at hg
  cases hb : has σ n with
  | false =>
    rw [hb] at hg
    have hbm : bump σ n b = σ := by unfold bump; rw [if_neg (by rw [hb]; simp)]
    have HM := Lib.hid (And.intro hbm h)
    have HG := Lib.hid hg
    have HN := Lib.hid hn
    have HZ := Lib.hid hz
    clear hok hg hN hn hz h hbm hb
    go_enter Try.func87, Try.ntmps87
    go_wp2_with fail
    refine HG.out.mono ?_; rintro e w1 ⟨rfl, hc1⟩
    have C1 := Lib.hid hc1
    clear hc1
    go_wp2_with (first
      | ((with_reducible show wpList _ _ _ (⟨_, .alloc 124, _, _, _, _⟩ :: _) _ _); refine wpList_alloc_is rfl 124 rfl (.agg Z) HZ.out.1 ?_; dsimp only [Value.cells]; try simp only [World.size_alloc])
      | ((with_reducible show wpList _ _ _ (⟨_, .store 124 (.tmp 6) _, _, _, _, _⟩ :: _) _ _); go_must (refine wpList_store_part rfl 124 _ _ rfl w1.heap.size 0 N rfl rfl (heap_alloc_new _ _) (by rw [sizeN, HN.out.1]) (by rw [HN.out.1, HZ.out.2]; omega) HN.out.2 N (by rw [splice_all _ _ (by rw [Array.length_toList, Array.length_toList, HN.out.1, HZ.out.2])]) ?_)))
    go_end0
    exact ⟨⟨_, rfl⟩, by rw [HM.out.1]; exact Moved.same HM.out.2 ((C1.out.alloc _).setRow (.inr C1.out.size) _)⟩
  | true =>
    rw [hb] at hg
    obtain ⟨x, hx⟩ : ∃ x, σ.get? n = some x := Option.isSome_iff_exists.1 hb
    have hbm : bump σ n b = (σ.set n (withHeld (nd σ n) (wrap64 ((nd σ n).held + b)))).2 := by unfold bump; rw [if_pos hb]
    have k0 : N[102]? = some (.int .i64 (nd σ n).held) := by rw [hN]; exact Nd.at_held hok
    have kset : ∀ y, N.setIfInBounds 102 (.int .i64 y) = (withHeld (nd σ n) y).cells := fun y => by rw [hN]; exact Nd.set_held hok y
    have HM := Lib.hid (And.intro hbm (And.intro h (And.intro hx hok)))
    have HG := Lib.hid hg
    have HN := Lib.hid hn
    have HZ := Lib.hid hz
    have HK := Lib.hid kset
    clear hok hg hN hn hz h hbm hb hx kset
    generalize (nd σ n).held = hd at k0 HM
    go_enter Try.func87, Try.ntmps87
    go_wp2_with fail
    refine HG.out.mono ?_; rintro e w1 ⟨rfl, hc1⟩
    have c0 := row_cell (row_setRow_same (heap_alloc_new w1 (.cells Z 124)) N) k0
    have f0 := row_free (row_setRow_same (heap_alloc_new w1 (.cells Z 124)) N) 102
    have C1 := Lib.hid hc1
    clear hc1 k0
    go_wp2_with (first
      | ((with_reducible show wpList _ _ _ (⟨_, .alloc 124, _, _, _, _⟩ :: _) _ _); refine wpList_alloc_is rfl 124 rfl (.agg Z) HZ.out.1 ?_; dsimp only [Value.cells]; try simp only [World.size_alloc])
      | ((with_reducible show wpList _ _ _ (⟨_, .store 124 (.tmp 6) _, _, _, _, _⟩ :: _) _ _); go_must (refine wpList_store_part rfl 124 _ _ rfl w1.heap.size 0 N rfl rfl (heap_alloc_new _ _) (by rw [sizeN, HN.out.1]) (by rw [HN.out.1, HZ.out.2]; omega) HN.out.2 N (by rw [splice_all _ _ (by rw [Array.length_toList, Array.length_toList, HN.out.1, HZ.out.2])]) ?_)))
    have hcw : Adds w (((w1.alloc (.cells Z 124)).setRow w1.heap.size N).setCell ⟨w1.heap.size, 102, none⟩ (.int .i64 (wrap64 (hd + b)))) := ((C1.out.alloc _).setRow (.inr C1.out.size) _).setCell (p := ⟨w1.heap.size, 102, none⟩) (.inr C1.out.size) _
    have hrw := row_set_same (row_setRow_same (heap_alloc_new w1 (.cells Z 124)) N) 102 (.int .i64 (wrap64 (hd + b)))
    rw [HK.out] at hrw
    obtain ⟨W, hW⟩ : ∃ W, W = ((w1.alloc (.cells Z 124)).setRow w1.heap.size N).setCell ⟨w1.heap.size, 102, none⟩ (.int .i64 (wrap64 (hd + b))) := ⟨_, rfl⟩
    rw [← hW] at hcw hrw ⊢
    have hAt := HM.out.2.1.adds hcw.drew
    obtain ⟨a, G, h1, h2, h3, h4, h5, h6⟩ := hAt
    have hn' := withHeld_ok HM.out.2.2.2 (wrap64 (hd + b))
    have hset := SlabN.Set_ok h2 n (withHeld (nd σ n) (wrap64 (hd + b))).enc (Nd.enc_ok hn')
    rw [SlabSt.map_set] at hset
    obtain ⟨N2, hN2⟩ : ∃ N2, N2 = (withHeld (nd σ n) (wrap64 (hd + b))).cells := ⟨_, rfl⟩
    have hN2s : N2.size = 103 := by rw [hN2]; exact Nd.cells_size hn'
    rw [show (withHeld (nd σ n) (wrap64 (hd + b))).enc = .agg N2 by rw [hN2]; rfl] at hset
    rw [← hN2] at hrw
    have d0 := row_cell h1 (i := 0) rfl
    have hfin : ∀ w', SlabN.Moved W.drew w' a G ((σ.set n (withHeld (nd σ n) (wrap64 (hd + b)))).2.map Nd.enc) → Moved w w' s F (bump σ n b) := fun w' hm => by
      rw [HM.out.1]
      refine Moved.from hcw.drew (lift h1 h4 h5 h6 hm fun m y c hs => ?_) (fun k hk => .inl hk)
      obtain ⟨m', _, hx', hsl⟩ := set_slots HM.out.2.2.1 (withHeld (nd σ n) (wrap64 (hd + b)))
      rw [hsl] at hs
      by_cases hmm : m' = m
      · subst hmm
        rw [List.getElem?_set_self (List.getElem?_eq_some_iff.1 hx').1] at hs
        cases hs
        have hnd : nd σ n = x.1 := by unfold nd; rw [HM.out.2.2.1]; rfl
        obtain ⟨p1, p2, p3⟩ := h3 m' x.1 x.2 hx'
        exact ⟨hn', by rw [hnd]; exact p2, by rw [hnd]; exact p3⟩
      · rw [List.getElem?_set_ne hmm] at hs
        exact h3 m y c hs
    have HF := Lib.hid hfin
    have HS := Lib.hid hset
    have HR := Lib.hid hrw
    have H2 := Lib.hid (And.intro hN2s hW)
    clear hfin hset hrw hN2s hN2 hn' h1 h2 h3 h4 h5 h6 hcw hW c0 f0
    refine wp_region_plan (fun w0 => w0 = W.drew) 6 [(0, false), (1, false), (2, false), (3, false), (4, false), (5, false)] (by kernel_rfl) (by kernel_rfl) ?_ ?_
    · rfl
    iterate 5 refine plan_look rfl rfl (fun w0 hS => (by subst hS; go_simp; try rfl)) ?_
    simp only [Act.put, List.setIfInBounds_toArray, List.set_cons_succ, List.set_cons_zero]
    refine plan_load_part (cur := N2) (t := 124) (fr := (0, 0)) rfl rfl 124 (.tmp 6) rfl w1.heap.size 0 103 rfl (fun w0 hS => by subst hS; exact HR.out) Try.underlying124 rfl sizeN (by rw [H2.out.1]; omega) N2 (by simp [← H2.out.1]) ?_
    refine plan_end ?_; simp only [List.drop_succ_cons, List.drop_zero]
    simp only [Act.put, List.setIfInBounds_toArray, List.set_cons_succ, List.set_cons_zero]
    go_wp2_with fail
    refine HS.out.mono ?_; rintro e w2 ⟨rfl, hm2⟩
    have HM2 := Lib.hid hm2
    clear hm2
    go_wp2
    refine NoPanic.normal ?_
    go_end0
    exact ⟨⟨_, rfl⟩, HF.out _ HM2.out⟩

end Go.Proofs.Ytdgdpbmaalcedaa.Store
