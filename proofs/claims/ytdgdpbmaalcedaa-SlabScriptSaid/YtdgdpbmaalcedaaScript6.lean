/- SlabScript: the walk. -/
import Derived.Test.YtdgdpbmaalcedaaActs6d
import Derived.Test.YtdgdpbmaalcedaaCountsW
import Derived.Deep.LoopGhost
namespace Go.Proofs.Ytdgdpbmaalcedaa.Scr
open Go Go.RowKit Go.Proofs.Ytdgdpbmaalcedaa
set_option maxHeartbeats 1600000
set_option linter.unusedVariables false

theorem act_ok {w : World} {A B : Nat} {F : Nat → Prop} {σ : SlabSt} (h : PairAt w A B F σ σ) (k sl x : Int) : Calls Try.prog 25 #[.agg (pairV A B), .agg (actV3 k sl x)] w fun e w' => e = .returned (.bool true) ∧ ∃ σ', PairMoved w w' A B F σ' σ' := by
  by_cases h0 : k = 0
  · subst h0; exact act_take h sl x
  by_cases h1 : k = 1
  · subst h1; exact act_hold h sl x
  by_cases h2 : k = 2
  · subst h2; exact act_drop h sl x
  by_cases h3 : k = 3
  · subst h3; exact act_get h sl x
  by_cases h4 : k = 4
  · subst h4; exact act_set h sl x
  by_cases h5 : k = 5
  · subst h5; exact act_five h sl x
  by_cases h6 : k = 6
  · subst h6; exact act_gone h sl x
  exact act_other h k sl x ⟨h0, h1, h2, h3, h4, h5, h6⟩

/-- Within the law: 'p' is the pair's block. -/
structure In (w wr : World) (A B p : Nat) (σ : SlabSt) (F : Nat → Prop) : Prop where
  pair : PairAt wr A B F σ σ
  new : ∀ k, F k → w.heap.size ≤ k
  box : wr.heap[p]? = some (.cells (pairV A B) 53 (0, 0))
  off : ¬ F p
  adds : Ref6.Adds w wr
theorem In.and {w wr w2 : World} {A B p : Nat} {σ : SlabSt} {F : Nat → Prop} (h : In w wr A B p σ F) (ha : Ref6.Adds wr w2) : In w w2 A B p σ F :=
  ⟨h.pair.adds ha, h.new, ha.row h.box id, h.off, h.adds.trans ha (fun _ h => h.elim)⟩
theorem In.moved {w wr w2 : World} {A B p : Nat} {σ σ' : SlabSt} {F : Nat → Prop} (h : In w wr A B p σ F) (hm : PairMoved wr w2 A B F σ' σ') : ∃ F', In w w2 A B p σ' F' := by
  obtain ⟨F', h1, h2, h3⟩ := hm
  have hp := row_lt h.box
  have hs := h.adds.size
  exact ⟨F', h1, fun k hk => (h3 k hk).elim (h.new k) (fun hx => Nat.le_trans hs hx), h2.row h.box h.off, fun hf => (h3 p hf).elim h.off (fun hx => by omega), h.adds.trans h2 (fun k hk => .inr (h.new k hk))⟩

theorem bad (room : Int) (h : room < 1 ∨ 65536 < room) (v : Value) (w : World) (ao : Option Addr) (len cap : Nat) (hv : v = .slice ao len cap) : Calls Try.prog 5 #[.int .i64 room, v] w fun e w' => e = .returned (.bool true) ∧ Ref6.Adds w w' := by
  subst hv
  have HB := Lib.hid h
  clear h
  by_cases hl : (len : Int) ≤ 400
  · go_enter Try.func5, Try.ntmps5
    go_wp2_with fail
    refine (SlabI.New_bad room w HB.out).mono ?_; rintro e w1 ⟨rfl, rfl⟩
    go_wp2_with fail
    refine (Ref6.New_bad room w HB.out).mono ?_; rintro e w1 ⟨rfl, rfl⟩
    go_wp2
    go_ret
    exact ⟨rfl, Ch.refl _ _⟩
  · go_enter Try.func5, Try.ntmps5
    go_wp2
    go_ret
    exact ⟨rfl, Ch.refl _ _⟩

set_option maxRecDepth 100000 in
theorem good (n : Nat) (hn1 : 1 ≤ n) (hn2 : n ≤ 65536) (ao : Option Addr) (len cap : Nat) (w : World) (ha : Cnt.ActsAt w ao len) :
    Calls Try.prog 5 #[.int .i64 (n : Nat), .slice ao len cap] w fun e w' => e = .returned (.bool true) ∧ Ref6.Adds w w' := by
  have HA := Lib.hid ha
  clear ha
  by_cases hl : (len : Int) ≤ 400
  · go_enter Try.func5, Try.ntmps5
    go_wp2_with fail
    refine (SlabI.New_ok n w hn1 hn2).mono ?_; rintro e w1 ⟨rfl, at1, ad1, sz1⟩
    have H1 := Lib.hid (And.intro at1 (And.intro ad1 sz1))
    clear at1 ad1 sz1
    go_wp2_with fail
    refine (Ref6.New_ok n w1 hn1 hn2).mono ?_; rintro e w2 ⟨rfl, at2, ad2, sz2⟩
    obtain ⟨B, hB⟩ : ∃ B, B = w1.heap.size := ⟨_, rfl⟩
    obtain ⟨A, hA⟩ : ∃ A, A = w.heap.size := ⟨_, rfl⟩
    have hBA : B = A + 1 := by rw [hB, hA]; exact H1.out.2.2
    have hin : In w (w2.alloc (.cells (pairV A B) 53)) A B w2.heap.size ⟨n, [], []⟩ (fun k => k = A ∨ k = B) := by
      have hs2 : w2.heap.size = B + 1 := by rw [hB]; exact sz2
      refine ⟨⟨fun k => k = A, fun k => k = B, ?_, ?_, fun k h1 h2 => by omega, fun k h => .inl h, fun k h => .inr h, fun k hk => by simp; omega, fun s hs => by simp at hs⟩, fun k hk => by omega, heap_alloc_new _ _, by omega, ((H1.out.2.1.trans ad2 (fun _ h => h.elim))).alloc _⟩
      · rw [hA]; exact H1.out.1.keep (ad2.alloc _) (fun _ _ h => h)
      · rw [hB]; exact at2.keep ((Ch.refl _ _).alloc _) (fun _ _ h => h)
    rw [← hA, ← hB]
    have HI := Lib.hid hin
    clear at2 ad2 sz2 hin hA hB hBA
    go_wp2
    go_loopg [10] len (fun g s10 wr => ∃ (k : Nat) (σ : SlabSt) (F : Nat → Prop), k ≤ len ∧ g = len - k ∧ s10 = .int .i64 k ∧ In w wr A B w2.heap.size σ F)
    case atStart => exact ⟨0, _, _, Nat.zero_le _, rfl, rfl, HI.out⟩
    case round =>
      obtain ⟨k, σ, F, hk, rfl, rfl, hi⟩ := hrel
      have HR := Lib.hid hi
      clear hi
      by_cases hkl : k < len
      · obtain ⟨g, off, kd, sl, x, rfl, k0, k1, k2, hsl⟩ := HA.out k hkl
        have hkz : (k : Int) < (len : Int) := by omega
        have CL := Lib.hid (And.intro (HR.out.adds.cell k0 id) (And.intro (HR.out.adds.cell k1 id) (HR.out.adds.cell k2 id)))
        have e0 := Lib.hid k0
        clear k0 k1 k2 hsl
        go_wp2
        refine wp_region_plan (fun w0 => w0.cell? ⟨w2.heap.size, 0, none⟩ = some (.pointer (some ⟨A, 0, none⟩)) ∧ w0.cell? ⟨w2.heap.size, 1, none⟩ = some (.pointer (some ⟨B, 0, none⟩)) ∧ w0.cell? ⟨g, off + k * 3, none⟩ = some (.int .i64 kd) ∧ w0.cell? ⟨g, off + k * 3 + 1, none⟩ = some (.int .i64 sl) ∧ w0.cell? ⟨g, off + k * 3 + 2, none⟩ = some (.int .i64 x)) 5 [(0, false), (1, false), (2, false), (3, false), (4, false)] (by kernel_rfl) (by kernel_rfl) ?_ ?_
        · exact ⟨row_cell (HR.out.and ((Ch.refl _ _).drew)).box rfl, row_cell (HR.out.and ((Ch.refl _ _).drew)).box rfl, CL.out⟩
        iterate 5 refine plan_look rfl rfl (fun w0 hS => (by obtain ⟨s1, s2, s3, s4, s5⟩ := hS; go_simp; try rfl)) ?_
        simp only [Act.put, List.setIfInBounds_toArray, List.set_cons_succ, List.set_cons_zero]
        refine plan_end ?_; simp only [List.drop_succ_cons, List.drop_zero]
        go_wp2_with fail
        refine (act_ok (HR.out.and ((Ch.refl _ _).drew)).pair kd sl x).mono ?_; rintro e w5 ⟨rfl, σ', hm⟩
        have h5 := (HR.out.and ((Ch.refl _ _).drew)).moved hm
        have H5 := Lib.hid h5
        clear hm h5
        go_wp2
        refine NoPanic.normal ?_
        go_wp2
        go_roundg (len - (k + 1))
        case measure => omega
        case rel => obtain ⟨F', h6⟩ := H5.out; exact ⟨k + 1, σ', F', by omega, rfl, by go_num, h6⟩
      · obtain rfl : k = len := by omega
        have d0 := row_cell HR.out.box (i := 0) rfl
        have d1 := row_cell HR.out.box (i := 1) rfl
        go_wp2_with fail
        refine (gone_p HR.out.pair 0).mono ?_; rintro e w5 ⟨rfl, a5⟩
        have h5 := HR.out.and a5
        have d0 := row_cell h5.box (i := 0) rfl
        have d1 := row_cell h5.box (i := 1) rfl
        have H5 := Lib.hid h5
        clear a5 h5
        go_wp2_with fail
        refine (act_ok H5.out.pair 5 0 0).mono ?_; rintro e w6 ⟨rfl, σ', hm⟩
        obtain ⟨F', h6⟩ := H5.out.moved hm
        go_wp2
        go_ret
        exact ⟨by simp, h6.adds⟩
  · go_enter Try.func5, Try.ntmps5
    go_wp2
    go_ret
    exact ⟨rfl, Ch.refl _ _⟩

end Go.Proofs.Ytdgdpbmaalcedaa.Scr
