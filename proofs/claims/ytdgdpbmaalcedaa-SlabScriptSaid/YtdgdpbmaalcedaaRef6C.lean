/- The document's slab: Set, Hold, Drop, Take, New, Slots, Len. -/
import Derived.Test.YtdgdpbmaalcedaaRef6L
import Derived.Test.YtdgdpbmaalcedaaSlabGI
import Derived.Test.YtdgdpbmaalcedaaSlabM2
import Derived.Deep.LoopGhost
namespace Go.Proofs.Ytdgdpbmaalcedaa.Ref6
open Go Go.RowKit
set_option maxHeartbeats 800000
set_option linter.unusedVariables false

theorem cnts_set (l : List (Value × Nat)) (m : Nat) (s : Value × Nat) : (cnts l).set m (.int .i64 (s.2 : Nat)) = cnts (l.set m s) := by simp [cnts, List.map_set]
theorem told_set {l : List (Value × Nat)} {ts : List Value} (h : Told l ts) {m : Nat} {s : Value × Nat} (hs : s.2 ≠ 0 → ts[m]? = some s.1) : Told (l.set m s) ts := fun i t hi ht => by
  by_cases him : m = i
  · subst him
    rw [List.getElem?_set_self' ] at hi
    cases hq : l[m]? with
    | none => rw [hq] at hi; cases hi
    | some u => rw [hq] at hi; cases hi; exact hs ht
  · rw [List.getElem?_set_ne him] at hi; exact h i t hi ht
theorem told_put {l : List (Value × Nat)} {ts : List Value} (h : Told l ts) {m : Nat} (hm : m < ts.length) (s : Value × Nat) : Told (l.set m s) (ts.set m s.1) := fun i t hi ht => by
  by_cases him : m = i
  · subst him
    rw [List.getElem?_set_self'] at hi
    cases hq : l[m]? with
    | none => rw [hq] at hi; cases hi
    | some u => rw [hq] at hi; cases hi; rw [List.getElem?_set_self hm]; rfl
  · rw [List.getElem?_set_ne him] at hi ⊢; exact h i t hi ht
theorem told_snoc {l : List (Value × Nat)} {ts : List Value} (h : Told l ts) (hl : ts.length = l.length) (s : Value × Nat) : Told (l ++ [s]) (ts ++ [s.1]) := fun i t hi ht => by
  rcases Nat.lt_or_ge i l.length with hlt | hge
  · rw [List.getElem?_append_left hlt] at hi
    rw [List.getElem?_append_left (by omega)]
    exact h i t hi ht
  · rw [List.getElem?_append_right hge] at hi
    rw [List.getElem?_append_right (by omega), hl]
    cases hq : i - l.length with
    | zero => rw [hq] at hi; simp at hi; subst hi; rfl
    | succ k => rw [hq] at hi; simp at hi
theorem Open.len {w : World} {a : Nat} {F : Nat → Prop} {room nT nC nf : Nat} {vT vC vF : Value} {ts cs fs : List Value} (h : Open w a F room nT nC nf vT vC vF ts cs fs) : ts.length = nT ∧ cs.length = nC ∧ fs.length = nf :=
  ⟨by have := h.things.1; omega, by have := h.counts.1; omega, by have := h.free.1; omega⟩
/-- What lies where. -/
theorem Open.cells {w : World} {a : Nat} {F : Nat → Prop} {room nT nC nf : Nat} {vT vC vF : Value} {ts cs fs : List Value} (h : Open w a F room nT nC nf vT vC vF ts cs fs) :
    w.cell? ⟨a, 0, none⟩ = some (.bool true) ∧ w.cell? ⟨a, 1, none⟩ = some (.int .i64 room) ∧ w.cell? ⟨a, 2, none⟩ = some vT ∧ w.cell? ⟨a, 3, none⟩ = some vC ∧ w.cell? ⟨a, 4, none⟩ = some vF ∧ (∀ i, w.frozen? ⟨a, i, none⟩ = false) ∧ a < w.heap.size :=
  ⟨row_cell h.row rfl, row_cell h.row rfl, row_cell h.row rfl, row_cell h.row rfl, row_cell h.row rfl, fun i => row_free h.row i, row_lt h.row⟩
theorem own_cell {w : World} {b n : Nat} {v : Value} {xs : List Value} (h : w.ownsRow b 3 1 v n xs) {m : Nat} (hm : m < n) {x : Value} (hx : xs[m]? = some x) :
    ∃ g cap, v = .slice (some ⟨g, 0, none⟩) n cap ∧ w.cell? ⟨g, m, none⟩ = some x ∧ w.frozen? ⟨g, m, none⟩ = false ∧ g < w.heap.size := by
  obtain ⟨g, cap, cur, rfl, hg, _, _, _, q⟩ := owns_block h (by omega)
  exact ⟨g, cap, rfl, row_cell hg (take_get q hx), row_free hg m, row_lt hg⟩

/-- How the errors come out. -/
theorem wrong_no {σ : SlabSt} {n : Int} (h : σ.get? n = none) : wrongOf σ n = 7 := by simp [wrongOf, h]
theorem wrong_yes {σ : SlabSt} {n : Int} {s : Value × Nat} (h : σ.get? n = some s) : wrongOf σ n = 0 := by simp [wrongOf, h]

theorem Set_ok {w : World} {a : Nat} {F : Nat → Prop} {σ : SlabSt} (h : At w a F σ) (hl : σ.slots.length ≤ 65536) (n x : Int) :
    Calls Try.prog 72 #[.pointer (some ⟨a, 0, none⟩), .int .i64 n, .int .i64 x] w fun e w' => e = .returned (.int .i64 (σ.set n (.int .i64 x)).1) ∧ Moved w w' a F (σ.set n (.int .i64 x)).2 := by
  have HW := Lib.hid (wrong_ok h hl n)
  unfold SlabSt.set
  cases hq : σ.get? n with
  | none =>
    rw [wrong_no hq] at HW
    have HA := Lib.hid h
    clear h hq
    go_enter Try.func72, Try.ntmps72
    go_wp2_with fail
    refine HW.out.mono ?_; rintro e w1 ⟨rfl, rfl⟩
    go_wp2
    go_ret
    exact ⟨rfl, F, HA.out, Ch.refl _ _, fun k hk => .inl hk⟩
  | some s =>
    rw [wrong_yes hq] at HW
    obtain ⟨m, rfl, hs, h0, hm⟩ := SlabSt.get?_some hq
    obtain ⟨vT, vC, vF, ts, ho, ht⟩ := h.open
    obtain ⟨d0, d1, d2, d3, d4, dz, dl⟩ := ho.cells
    obtain ⟨gT, cT, rfl, e1, e2, e3⟩ := own_cell ho.things hm (ht m s hs h0)
    have hwi := wrap_small (m := m) (by omega)
    have hi1 : (m : Int) < (σ.slots.length : Int) := by omega
    have hi2 : (m : Int) ≤ 65535 := by omega
    have hi3 : m ≤ 65535 := by omega
    have hfin := ho.setT rfl hm (.int .i64 x)
    have hst : Told (σ.setAt (m + 1) (.int .i64 x, s.2)).slots (ts.set m (.int .i64 x)) := by
      simp only [SlabSt.setAt, show ((m : Int) + 1 - 1).toNat = m by omega]
      exact told_put ht (by rw [ho.len.1]; exact hm) (.int .i64 x, s.2)
    have hcs : cnts (σ.setAt (m + 1) (.int .i64 x, s.2)).slots = cnts σ.slots := by
      simp only [SlabSt.setAt, show ((m : Int) + 1 - 1).toNat = m by omega, ← cnts_set]
      apply List.ext_getElem?
      intro i
      by_cases him : m = i
      · subst him; rw [List.getElem?_set_self (by simpa [cnts] using hm)]; simp [cnts, hs]
      · rw [List.getElem?_set_ne him]
    have hlen : (σ.setAt (m + 1) (.int .i64 x, s.2)).slots.length = σ.slots.length := by simp [SlabSt.setAt]
    have hAt : Moved w (w.setCell ⟨gT, m, none⟩ (.int .i64 x)) a F (σ.setAt (m + 1) (.int .i64 x, s.2)) := by
      refine ⟨F, Open.shut (vT := .slice (some ⟨gT, 0, none⟩) σ.slots.length cT) (vC := vC) (vF := vF) (ts := ts.set m (.int .i64 x)) ?_ hst, hfin.2, fun k hk => .inl hk⟩
      rw [hlen, hcs]
      exact hfin.1
    have HA := Lib.hid hAt
    obtain ⟨old, hold⟩ : ∃ old, old = s.1 := ⟨_, rfl⟩
    rw [← hold] at e1
    clear h hq hs h0 ho ht hfin hst hcs hlen hAt hold
    go_enter Try.func72, Try.ntmps72
    go_wp2_with fail
    refine HW.out.mono ?_; rintro e w1 ⟨rfl, rfl⟩
    go_wp2
    go_ret
    exact ⟨rfl, HA.out⟩

theorem get_eq {α : Type} {l : List α} {m : Nat} {s : α} (h : l[m]? = some s) : l.set m s = l := by
  apply List.ext_getElem?
  intro i
  by_cases him : m = i
  · subst him; rw [List.getElem?_set_self (List.getElem?_eq_some_iff.1 h).1, h]
  · rw [List.getElem?_set_ne him]
/-- A count is written over: the slab behind it. -/
theorem At.setC {w : World} {a : Nat} {F : Nat → Prop} {σ : SlabSt} {m : Nat} {s : Value × Nat} {vT vF : Value} {ts : List Value} {gC cC : Nat}
    (ho : Open w a F σ.room σ.slots.length σ.slots.length σ.free.length vT (.slice (some ⟨gC, 0, none⟩) σ.slots.length cC) vF ts (cnts σ.slots) (frs σ.free)) (ht : Told σ.slots ts) (hs : σ.slots[m]? = some s) (h0 : s.2 ≠ 0) (v' : Value) (c' : Nat) (hv : c' ≠ 0 → v' = s.1) :
    Open (w.setCell ⟨gC, m, none⟩ (.int .i64 (c' : Int))) a F σ.room σ.slots.length σ.slots.length σ.free.length vT (.slice (some ⟨gC, 0, none⟩) σ.slots.length cC) vF ts (cnts (σ.slots.set m (v', c'))) (frs σ.free) ∧ Told (σ.slots.set m (v', c')) ts ∧
      Ch F w (w.setCell ⟨gC, m, none⟩ (.int .i64 (c' : Int))) := by
  have hm := (List.getElem?_eq_some_iff.1 hs).1
  have h1 := ho.setC rfl hm (.int .i64 (c' : Int))
  rw [show (cnts σ.slots).set m (.int .i64 (c' : Int)) = cnts (σ.slots.set m (v', c')) from cnts_set σ.slots m (v', c')] at h1
  exact ⟨h1.1, told_set ht (fun hc => by rw [hv hc]; exact ht m s hs h0), h1.2⟩

set_option maxRecDepth 100000 in
theorem Hold_ok {w : World} {a : Nat} {F : Nat → Prop} {σ : SlabSt} (h : At w a F σ) (hl : σ.slots.length ≤ 65536) (hcm : ∀ s ∈ σ.slots, s.2 ≤ 1073741824) (n : Int) :
    Calls Try.prog 64 #[.pointer (some ⟨a, 0, none⟩), .int .i64 n] w fun e w' => e = .returned (.int .i64 (σ.hold n).1) ∧ Moved w w' a F (σ.hold n).2 := by
  have HW := Lib.hid (wrong_ok h hl n)
  unfold SlabSt.hold
  cases hq : σ.get? n with
  | none =>
    rw [wrong_no hq] at HW
    have HA := Lib.hid h
    clear h hq
    go_enter Try.func64, Try.ntmps64
    go_wp2_with fail
    refine HW.out.mono ?_; rintro e w1 ⟨rfl, rfl⟩
    go_wp2
    go_ret
    exact ⟨rfl, F, HA.out, Ch.refl _ _, fun k hk => .inl hk⟩
  | some s =>
    rw [wrong_yes hq] at HW
    obtain ⟨m, rfl, hs, h0, hm⟩ := SlabSt.get?_some hq
    have hA := h
    obtain ⟨vT, vC, vF, ts, ho, ht⟩ := h.open
    obtain ⟨d0, d1, d2, d3, d4, dz, dl⟩ := ho.cells
    obtain ⟨gC, cC, rfl, e1, e2, e3⟩ := own_cell ho.counts hm (x := .int .i64 (s.2 : Nat)) (by simp [cnts, hs])
    have hc1 := hcm s (List.mem_of_getElem? hs)
    have hwi := wrap_small (m := m) (by omega)
    have hi1 : (m : Int) < (σ.slots.length : Int) := by omega
    have hi2 : (m : Int) ≤ 65535 := by omega
    have hi3 : m ≤ 65535 := by omega
    have hfin := At.setC ho ht hs h0 s.1 (s.2 + 1) (fun _ => rfl)
    obtain ⟨c, hc⟩ : ∃ c, c = s.2 := ⟨_, rfl⟩
    rw [← hc] at e1 hc1 hfin
    simp only
    rw [← hc]
    by_cases hx : c = 1073741824
    · rw [if_pos hx]
      have HA := Lib.hid hA
      have hx' : (c : Int) = 1073741824 := by omega
      rw [hx'] at e1
      clear hA h hq hs h0 ho ht hfin hc hcm hx hx' hc1
      go_enter Try.func64, Try.ntmps64
      go_wp2_with fail
      refine HW.out.mono ?_; rintro e w1 ⟨rfl, rfl⟩
      go_wp2
      go_ret
      exact ⟨rfl, F, HA.out, Ch.refl _ _, fun k hk => .inl hk⟩
    · rw [if_neg hx]
      have hb : decide (1073741824 ≤ (c : Int)) = false := by simp; omega
      have hwc : IntKind.i64.wrap ((c : Int) + 1) = (c : Int) + 1 := IntWalk.i64_in _ (by omega)
      have HA : Hid (Moved w (w.setCell ⟨gC, m, none⟩ (.int .i64 ((c : Int) + 1))) a F (σ.setAt (m + 1) (s.1, c + 1))) := by
        refine ⟨F, Open.shut (vT := vT) (vC := .slice (some ⟨gC, 0, none⟩) σ.slots.length cC) (vF := vF) (ts := ts) ?_ ?_, ?_, fun k hk => .inl hk⟩
        · simp only [SlabSt.setAt, show ((m : Int) + 1 - 1).toNat = m by omega, List.length_set]
          exact hfin.1
        · simp only [SlabSt.setAt, show ((m : Int) + 1 - 1).toNat = m by omega]
          exact hfin.2.1
        · exact hfin.2.2
      clear hA h hq hs h0 ho ht hfin hc hcm hx hc1
      go_enter Try.func64, Try.ntmps64
      go_wp2_with fail
      refine HW.out.mono ?_; rintro e w1 ⟨rfl, rfl⟩
      go_wp2
      go_ret
      exact ⟨rfl, HA.out⟩

set_option maxRecDepth 100000 in
theorem Drop_ok {w : World} {a : Nat} {F : Nat → Prop} {σ : SlabSt} (h : At w a F σ) (hl : σ.slots.length ≤ 65536) (hcm : ∀ s ∈ σ.slots, s.2 ≤ 1073741824) (hfl : σ.free.length ≤ 65536) (z : Value) (n : Int) :
    Calls Try.prog 66 #[.pointer (some ⟨a, 0, none⟩), .int .i64 n] w fun e w' => e = .returned (.tuple #[.bool (σ.drop z n).1, .int .i64 (σ.drop z n).2.1]) ∧ Moved w w' a F (σ.drop z n).2.2 := by
  have HW := Lib.hid (wrong_ok h hl n)
  unfold SlabSt.drop
  cases hq : σ.get? n with
  | none =>
    rw [wrong_no hq] at HW
    have HA := Lib.hid h
    clear h hq
    go_enter Try.func66, Try.ntmps66
    go_wp2_with fail
    refine HW.out.mono ?_; rintro e w1 ⟨rfl, rfl⟩
    go_wp2
    go_ret2
    exact ⟨rfl, F, HA.out, Ch.refl _ _, fun k hk => .inl hk⟩
  | some s =>
    rw [wrong_yes hq] at HW
    obtain ⟨m, rfl, hs, h0, hm⟩ := SlabSt.get?_some hq
    obtain ⟨vT, vC, vF, ts, ho, ht⟩ := h.open
    obtain ⟨d0, d1, d2, d3, d4, dz, dl⟩ := ho.cells
    obtain ⟨gC, cC, rfl, e1, e2, e3⟩ := own_cell ho.counts hm (x := .int .i64 (s.2 : Nat)) (by simp [cnts, hs])
    have hc1 := hcm s (List.mem_of_getElem? hs)
    have hwi := wrap_small (m := m) (by omega)
    have hi1 : (m : Int) < (σ.slots.length : Int) := by omega
    have hi2 : (m : Int) ≤ 65535 := by omega
    have hi3 : m ≤ 65535 := by omega
    have hga : a ≠ gC := fun e => (ho.cB gC rfl).2.1 e.symm
    simp only
    by_cases h1 : s.2 = 1
    · rw [if_pos h1]
      rw [h1] at e1
      have hfin := At.setC ho ht hs h0 z 0 (fun h => absurd rfl h)
      rw [show ((0 : Nat) : Int) = (0 : Int) from rfl] at hfin
      obtain ⟨fo, fc, rfl⟩ := owns_form ho.free
      obtain ⟨i0, hi, hz0, hz1, hz2⟩ := SlabI.int_info
      have HO := Lib.hid hfin
      have HI := Lib.hid (And.intro hi (And.intro hz0 (And.intro hz1 hz2)))
      have e1' : w.cell? ⟨gC, m, none⟩ = some (.int .i64 1) := e1
      clear h hq hs h0 ho ht hfin hcm h1 hi hz0 hz1 hz2 e1 hc1
      go_enter Try.func66, Try.ntmps66
      go_wp2_with fail
      refine HW.out.mono ?_; rintro e w1 ⟨rfl, rfl⟩
      go_wp2_with (first
        | (at_builtin; refine wpList_append_own_at _ rfl _ _ 58 rfl 0 3 i0 (.int .i64 0) 1 8 Try.underlying58 HI.out.1 HI.out.2.1 HI.out.2.2.1 HI.out.2.2.2 rfl (by decide) (.slice fo σ.free.length fc) _ _ rfl (HO.out.1.free.alloc _) ⟨w.heap.size, 0, none⟩ 1 1 [.int .i64 ((m : Int) + 1)] rfl rfl (row_news (cs := #[.int .i64 ((m : Int) + 1)]) (t := 3) (fr := (0, 0)) (heap_alloc_at _ _ _ (by simp))) (by simp [Value.oneCell']) (by unfold maxLen; omega) (by omega) (by omega) ?_; intro v' w2 hown hgrow hnil hloc; obtain ⟨ao', cap', rfl⟩ := owns_form hown; have CH : Ch (fun k => (Value.slice fo σ.free.length fc).ownBlock = some k) (w.setCell ⟨gC, m, none⟩ (.int .i64 0)) w2 := ((Ch.refl (fun k => (Value.slice fo σ.free.length fc).ownBlock = some k) (w.setCell ⟨gC, m, none⟩ (.int .i64 0))).alloc _).grown hgrow (fun k hk => .inl hk); have hr2 := CH.row HO.out.1.row (fun e => (HO.out.1.fB a e).2.1 rfl); have k4 := row_cell hr2 (i := 4) rfl; have f4 := row_free hr2 4; have HN := Lib.hid (HO.out.1.newF hown CH (fun k hk => by rcases hloc with hx | hx; exact .inl (by rw [← hx]; exact hk); rw [hx] at hk; simp at hk; right; simp; omega)); clear hown hgrow hnil hloc CH hr2))
      go_ret2
      refine ⟨rfl, (fun k => F k ∨ ((w.setCell ⟨gC, m, none⟩ (.int .i64 0)).heap.size ≤ k ∧ k < w2.heap.size)), Open.shut (ts := ts) (vT := vT) (vC := .slice (some ⟨gC, 0, none⟩) σ.slots.length cC) (vF := .slice ao' (σ.free.length + 1) cap') ?_ ?_, (HO.out.2.2).trans HN.out.2 (fun k hk => .inl hk), fun k hk => hk.imp id (fun hx => by have := hx.1; simpa using this)⟩
      · have e5 : (σ.setAt (m + 1) (z, 0)).slots = σ.slots.set m (z, 0) := by simp only [SlabSt.setAt, show ((m : Int) + 1 - 1).toNat = m by omega]
        have e6 : frs (σ.free ++ [((m : Int) + 1).toNat]) = frs σ.free ++ [.int .i64 ((m : Int) + 1)] := by
          rw [show ((m : Int) + 1).toNat = m + 1 by omega]
          simp [frs]
        have hN := HN.out.1
        simp only [List.length_append, List.length_singleton, e6]
        rw [e5, List.length_set]
        exact hN
      · have e5 : (σ.setAt (m + 1) (z, 0)).slots = σ.slots.set m (z, 0) := by simp only [SlabSt.setAt, show ((m : Int) + 1 - 1).toNat = m by omega]
        show Told (σ.setAt (m + 1) (z, 0)).slots ts
        rw [e5]
        exact HO.out.2.1
    · rw [if_neg h1]
      have hfin := At.setC ho ht hs h0 s.1 (s.2 - 1) (fun _ => rfl)
      have hcast : (((s.2 - 1 : Nat)) : Int) = (s.2 : Int) - 1 := by omega
      rw [hcast] at hfin
      obtain ⟨c, hc⟩ : ∃ c, c = s.2 := ⟨_, rfl⟩
      have hlt : (c : Int) ≤ 1073741824 := by omega
      have hge : 1 < (c : Int) := by omega
      have hge2 : 0 < (c : Int) - 1 := by omega
      rw [← hc] at e1 hfin ⊢
      have HO := Lib.hid hfin
      clear h hq hs h0 ho ht hfin hcm h1 hc1 hc hcast
      go_enter Try.func66, Try.ntmps66
      go_wp2_with fail
      refine HW.out.mono ?_; rintro e w1 ⟨rfl, rfl⟩
      go_wp2
      go_ret2
      refine ⟨rfl, F, Open.shut (ts := ts) (vT := vT) (vC := .slice (some ⟨gC, 0, none⟩) σ.slots.length cC) (vF := vF) ?_ ?_, HO.out.2.2, fun k hk => .inl hk⟩
      · simp only [SlabSt.setAt, show ((m : Int) + 1 - 1).toNat = m by omega, List.length_set]
        exact HO.out.1
      · simp only [SlabSt.setAt, show ((m : Int) + 1 - 1).toNat = m by omega]
        exact HO.out.2.1

end Go.Proofs.Ytdgdpbmaalcedaa.Ref6
