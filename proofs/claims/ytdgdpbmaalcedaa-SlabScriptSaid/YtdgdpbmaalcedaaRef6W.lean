/- The document's slab: Set and Hold. -/
import Derived.Test.YtdgdpbmaalcedaaRef6R
namespace Go.Proofs.Ytdgdpbmaalcedaa.Ref6
open Go Go.RowKit
set_option maxHeartbeats 400000
set_option linter.unusedVariables false

/-- The document's slab is now so; nothing else that was there has changed. -/
def Moved (w w' : World) (a : Nat) (F : Nat → Prop) (σ : SlabSt) : Prop := ∃ F', At w' a F' σ ∧ Ch F w w' ∧ ∀ k, F' k → F k ∨ w.heap.size ≤ k

/-- A held slot's thing is written over. -/
theorem set_thing {w : World} {a : Nat} {F : Nat → Prop} {σ : SlabSt} (h : At w a F σ) {m : Nat} {s : Value × Nat} (hs : σ.slots[m]? = some s) (h0 : s.2 ≠ 0) (x : Value) :
    ∃ gT cT, w.cell? ⟨a, 2, none⟩ = some (.slice (some ⟨gT, 0, none⟩) σ.slots.length cT) ∧ (∃ old, w.cell? ⟨gT, m, none⟩ = some old) ∧ w.frozen? ⟨gT, m, none⟩ = false ∧
      Moved w (w.setCell ⟨gT, m, none⟩ x) a F (σ.setAt (m + 1) (x, s.2)) := by
  have hm := (List.getElem?_eq_some_iff.1 hs).1
  obtain ⟨vT, vC, vF, ts, h1, h2, h3, h4, h5, h6, h7, h8, h9, h10⟩ := h
  have hlts : ts.length = σ.slots.length := by have := h2.1; omega
  obtain ⟨gT, cT, curT, rfl, hgT, p1, p2, p3, p4⟩ := owns_block h2 (by omega)
  have e : ((m : Int) + 1 - 1).toNat = m := by omega
  have hF := h7 gT rfl
  have hC8 : ∀ k, vC.ownBlock = some k → F k ∧ k ≠ a ∧ gT ≠ k := fun k hk => ⟨(h8 k hk).1, (h8 k hk).2.1, fun e => (h8 k hk).2.2 (by simp [Value.ownBlock, e])⟩
  have hF9 : ∀ k, vF.ownBlock = some k → F k ∧ k ≠ a ∧ gT ≠ k := fun k hk => ⟨(h9 k hk).1, (h9 k hk).2.1, fun e => (h9 k hk).2.2.1 (by simp [Value.ownBlock, e])⟩
  have hch : Ch (fun k => k = gT) w (w.setCell ⟨gT, m, none⟩ x) := (Ch.refl (fun k => k = gT) w).setCell (p := ⟨gT, m, none⟩) (.inl rfl) x
  refine ⟨gT, cT, row_cell h1 rfl, ⟨ts[m]'(by omega), row_cell hgT (take_get p4 (by simp))⟩, row_free hgT m, F, ?_, hch.mono (fun k _ hk => hk ▸ hF.1), fun k hk => .inl hk⟩
  refine ⟨_, vC, vF, ts.set m x, hch.row h1 (fun e => hF.2 e.symm), ?_, ?_, ?_, ?_, h6, h7, h8, h9, fun k hk => by have := h10 k hk; simpa using this⟩
  · have hl' : (σ.setAt (m + 1) (x, s.2)).slots.length = σ.slots.length := by simp [SlabSt.setAt]
    rw [hl']
    exact owns_mk' (row_set_same hgT m x) p1 p2 (by simpa using p3) (by
      rw [Array.toList_setIfInBounds, List.take_set, p4])
  · intro i t hi ht
    simp only [SlabSt.setAt, e] at hi
    by_cases him : i = m
    · subst him
      rw [List.getElem?_set_self hm] at hi
      cases hi
      rw [List.getElem?_set_self (by omega)]
    · rw [List.getElem?_set_ne (fun h => him h.symm)] at hi ⊢
      exact h3 i t hi ht
  · have hl' : (σ.setAt (m + 1) (x, s.2)).slots.length = σ.slots.length := by simp [SlabSt.setAt]
    have hm' : (σ.setAt (m + 1) (x, s.2)).slots.map (fun s => Value.int .i64 (s.2 : Nat)) = σ.slots.map (fun s => Value.int .i64 (s.2 : Nat)) := by
      simp only [SlabSt.setAt, e, List.map_set]
      apply List.ext_getElem?
      intro i
      by_cases him : i = m
      · subst him
        rw [List.getElem?_set_self (by simpa using hm)]
        simp [hs]
      · rw [List.getElem?_set_ne (fun h => him h.symm)]
    rw [hl', hm']
    exact hch.owns h4 (fun k hk he => (hC8 k hk).2.2 he.symm)
  · exact hch.owns h5 (fun k hk he => (hF9 k hk).2.2 he.symm)

end Go.Proofs.Ytdgdpbmaalcedaa.Ref6
