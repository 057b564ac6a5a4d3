/- The contracts of store.Store, part six: New, Hold, Leaf. -/
import Derived.Test.YtdgdpbmaalcedaaStoreW
import Derived.Test.YtdgdpbmaalcedaaStoreB
namespace Go.Proofs.Ytdgdpbmaalcedaa.Store
open Go Go.RowKit Go.Proofs.Ytdgdpbmaalcedaa Go.Proofs.Ytdgdpbmaalcedaa.ShaW Go.Proofs.Ytdgdpbmaalcedaa.Path
set_option maxHeartbeats 1600000
set_option linter.unusedVariables false

theorem Moved.cons {w w1 w2 : World} {s : Nat} {F F2 : Nat → Prop} {σ' : SlabSt Nd} (hC : Ch F w w1) (hF : ∀ k, F2 k → F k ∨ w.heap.size ≤ k) (hm : Moved w1 w2 s F2 σ') : Moved w w2 s F σ' := by
  obtain ⟨F3, g1, g2, g3⟩ := hm
  exact ⟨F3, g1, hC.trans g2 hF, fun k hk => (g3 k hk).elim (hF k) (fun h => .inr (Nat.le_trans hC.size h))⟩
theorem New_bad (n : Int) (w : World) (h : n < 1 ∨ 65536 < n) :
    Calls Try.prog 28 #[.int .i64 n] w fun e w' => e = .returned (.tuple #[.pointer none, .int .i64 2]) ∧ w = w' := by
  have HC := Lib.hid (SlabN.New_bad n w h)
  clear h
  go_enter Try.func28, Try.ntmps28
  go_wp2_with fail
  refine HC.out.mono ?_; rintro e w1 ⟨rfl, rfl⟩
  go_wp2
  go_ret2
  exact ⟨rfl, rfl⟩

theorem New_ok (n : Nat) (w : World) (h1 : 1 ≤ n) (h2 : n ≤ 65536) :
    Calls Try.prog 28 #[.int .i64 n] w fun e w' => ∃ s F, e = .returned (.tuple #[.pointer (some ⟨s, 0, none⟩), .int .i64 0]) ∧ At w' s F ⟨n, [], []⟩ ∧ (∀ k, F k → w.heap.size ≤ k) ∧ Adds w w' := by
  have HC := Lib.hid (SlabN.New_ok n w h1 h2)
  clear h1 h2
  go_enter Try.func28, Try.ntmps28
  go_wp2_with fail
  refine HC.out.mono ?_; rintro e w1 ⟨rfl, ha, hc, hs⟩
  have HA := Lib.hid (And.intro ha (And.intro hc hs))
  clear ha hc hs
  go_wp2
  go_ret2
  have hs := HA.out.2.2
  refine ⟨_, fun k => k = w.heap.size ∨ k = w1.heap.size, rfl, ⟨w.heap.size, fun k => k = w.heap.size, heap_alloc_new _ _, HA.out.1.keep ((Ch.refl (fun _ => False) w1).alloc _) (fun _ _ h => h), fun m n c h => by simp at h, .inr rfl, fun k hk => ⟨.inl hk, by omega⟩, fun k hk => by simp; omega⟩, fun k hk => by omega, HA.out.2.1.alloc _⟩

/-- Hold: the error, the store behind it. -/
def holdS (σ : SlabSt Nd) (n : Int) : Int × SlabSt Nd := if (σ.hold n).1 = 0 then (0, bump (σ.hold n).2 n 1) else ((σ.hold n).1, σ)
theorem hold_err {α : Type} {σ : SlabSt α} {n : Int} (h : (σ.hold n).1 ≠ 0) : (σ.hold n).2 = σ := by
  unfold SlabSt.hold at h ⊢
  split
  · rfl
  · split
    · rfl
    · rename_i h2 h3; rw [h2] at h; simp [h3] at h
theorem hold_things {α : Type} {σ : SlabSt α} {n : Int} {m : Nat} {y : α} {c : Nat} (h : (σ.hold n).2.slots[m]? = some (y, c)) : ∃ c', σ.slots[m]? = some (y, c') := by
  unfold SlabSt.hold at h
  cases hs : σ.get? n with
  | none => rw [hs] at h; exact ⟨c, h⟩
  | some x =>
    rw [hs] at h
    obtain ⟨m', rfl, hx, _, hl⟩ := SlabSt.get?_some hs
    simp only at h
    split at h
    · exact ⟨c, h⟩
    · simp only [SlabSt.setAt, show ((m' : Int) + 1 - 1).toNat = m' by omega] at h
      by_cases hm : m' = m
      · subst hm
        rw [List.getElem?_set_self hl] at h
        cases h
        exact ⟨x.2, hx⟩
      · rw [List.getElem?_set_ne hm] at h
        exact ⟨c, h⟩

set_option maxRecDepth 100000 in
theorem Hold_ok {w : World} {s : Nat} {F : Nat → Prop} {σ : SlabSt Nd} (h : At w s F σ) (n : Int) :
    Calls Try.prog 32 #[.pointer (some ⟨s, 0, none⟩), .int .i64 n] w fun e w' => e = .returned (.int .i64 (holdS σ n).1) ∧ Moved w w' s F (holdS σ n).2 := by
  obtain ⟨a, G, h1, h2, h3, h4, h5, h6⟩ := h
  have hc := SlabN.Hold_ok h2 n
  rw [SlabSt.map_hold] at hc
  have hl : ∀ w', SlabN.Moved w w' a G ((σ.hold n).2.map Nd.enc) → Moved w w' s F (σ.hold n).2 := fun w' hm => lift h1 h4 h5 h6 hm fun m y c hs => by
    obtain ⟨c', hs'⟩ := hold_things hs
    exact h3 m y c' hs'
  have c0 := row_cell h1 (i := 0) rfl
  have HL := Lib.hid hl
  have HR := Lib.hid h1
  by_cases he : (σ.hold n).1 = 0
  · have e1 : holdS σ n = (0, bump (σ.hold n).2 n 1) := by unfold holdS; rw [if_pos he]
    rw [e1]
    simp only at hc
    rw [he] at hc
    have HC := Lib.hid hc
    clear h1 h2 h3 h4 h5 h6 hc hl he e1
    go_enter Try.func32, Try.ntmps32
    go_wp2_with fail
    refine (none_no HR.out).mono ?_; rintro e w1 ⟨rfl, rfl⟩
    go_wp2_with fail
    refine HC.out.mono ?_; rintro e w2 ⟨rfl, hm⟩
    have hm2 := HL.out _ hm
    obtain ⟨F2, hA2, hC2, hF2⟩ := hm2
    have H2 := Lib.hid (And.intro hA2 (And.intro hC2 hF2))
    clear hm hA2 hC2 hF2
    go_wp2_with fail
    refine (callers_ok H2.out.1 n 1).mono ?_; rintro e w3 ⟨⟨v, rfl⟩, hm3⟩
    have H3 := Lib.hid hm3
    clear hm3
    go_wp2
    go_ret
    exact ⟨rfl, Moved.cons H2.out.2.1 H2.out.2.2 H3.out⟩
  · have e1 : holdS σ n = ((σ.hold n).1, σ) := by unfold holdS; rw [if_neg he]
    rw [e1]
    simp only at hc
    have hb : ((σ.hold n).1 != 0) = true := by simpa using he
    have hst := hold_err he
    rw [hst] at HL
    rw [hst] at hc
    generalize (σ.hold n).1 = er at hc hb
    have HC := Lib.hid hc
    clear h1 h2 h3 h4 h5 h6 hc hl he e1 hst
    go_enter Try.func32, Try.ntmps32
    go_wp2_with fail
    refine (none_no HR.out).mono ?_; rintro e w1 ⟨rfl, rfl⟩
    go_wp2_with fail
    refine HC.out.mono ?_; rintro e w2 ⟨rfl, hm⟩
    have HM := Lib.hid hm
    clear hm
    go_wp2
    go_ret
    exact ⟨rfl, HL.out _ HM.out⟩

/-- Leaf: handle, error, the store behind it; 'v' is where the value's copy lies. -/
def leafS (σ : SlabSt Nd) (key value : List UInt8) (v : Value) : Int × Int × SlabSt Nd :=
  if 1024 < value.length then (0, 4, σ) else σ.take (Nd.leaf (Tag.leafD key (Tag.valueD value)) key (Tag.valueD value) value v)

theorem take_things {α : Type} {σ : SlabSt α} {x y : α} {m c : Nat} (h : (σ.take x).2.2.slots[m]? = some (y, c)) : y = x ∨ ∃ c', σ.slots[m]? = some (y, c') := by
  unfold SlabSt.take at h
  split at h
  · exact .inr ⟨c, h⟩
  · cases hg : σ.free.getLast? with
    | none =>
      rw [hg] at h
      simp only at h
      rcases Nat.lt_or_ge m σ.slots.length with hm | hm
      · rw [List.getElem?_append_left hm] at h; exact .inr ⟨c, h⟩
      · rw [List.getElem?_append_right hm] at h
        cases hq : m - σ.slots.length with
        | zero => rw [hq] at h; simp at h; exact .inl h.1.symm
        | succ k => rw [hq] at h; simp at h
    | some n =>
      rw [hg] at h
      simp only at h
      by_cases hm : n - 1 = m
      · rw [hm] at h
        rcases Nat.lt_or_ge m σ.slots.length with hl | hl
        · rw [List.getElem?_set_self hl] at h; cases h; exact .inl rfl
        · rw [List.getElem?_eq_none (by simpa using hl)] at h; cases h
      · rw [List.getElem?_set_ne hm] at h; exact .inr ⟨c, h⟩
/-- A node with its value's block is taken in. -/
theorem take_lift {w : World} {s : Nat} {F : Nat → Prop} {σ : SlabSt Nd} (h : At w s F σ) {x : Nd} (hx : x.Ok) (hb : Bytes w x.addr x.value) (hk : ∀ k, x.addr.ownBlock = some k → ¬ F k ∧ k < w.heap.size) :
    ∃ a G, w.heap[s]? = some (.cells #[.pointer (some ⟨a, 0, none⟩)] 87 (0, 0)) ∧ SlabN.At SlabN.OkV w a G (σ.map Nd.enc) ∧ (∀ k, G k → F k ∧ k ≠ s ∧ k < w.heap.size) ∧
      ∀ w', SlabN.Moved w w' a G ((σ.take x).2.2.map Nd.enc) → Moved w w' s (fun k => F k ∨ x.addr.ownBlock = some k) (σ.take x).2.2 := by
  obtain ⟨a, G, h1, h2, h3, h4, h5, h6⟩ := h
  refine ⟨a, G, h1, h2, fun k hk => ⟨(h5 k hk).1, (h5 k hk).2, h6 k (h5 k hk).1⟩, fun w' hm => lift h1 (.inl h4) (fun k hk => ⟨.inl (h5 k hk).1, (h5 k hk).2⟩) (fun k h => h.elim (h6 k) (fun h => (hk k h).2)) hm fun m y c hs => ?_⟩
  rcases take_things hs with rfl | ⟨c', hs'⟩
  · exact ⟨hx, hb, fun k h => ⟨.inr h, fun e => (hk k h).1 (e ▸ h4), fun g => (hk k h).1 (h5 k g).1⟩⟩
  · obtain ⟨q1, q2, q3⟩ := h3 m y c' hs'
    exact ⟨q1, q2, fun k h => ⟨.inl (q3 k h).1, (q3 k h).2⟩⟩

end Go.Proofs.Ytdgdpbmaalcedaa.Store
