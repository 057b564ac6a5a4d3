/- The document's slab: how its parts change. -/
import Derived.Test.YtdgdpbmaalcedaaRef6W
import Derived.Maps.AppendAt
namespace Go.Proofs.Ytdgdpbmaalcedaa.Ref6
open Go Go.RowKit
set_option maxHeartbeats 400000
set_option linter.unusedVariables false

/-- The parts, laid open. -/
structure Open (w : World) (a : Nat) (F : Nat → Prop) (room nT nC nf : Nat) (vT vC vF : Value) (ts cs : List Value) (fs : List Value) : Prop where
  row : w.heap[a]? = some (.cells #[.bool true, .int .i64 room, vT, vC, vF] 113 (0, 0))
  things : w.ownsRow 0 3 1 vT nT ts
  counts : w.ownsRow 0 3 1 vC nC cs
  free : w.ownsRow 0 3 1 vF nf fs
  own : F a
  tB : ∀ k, vT.ownBlock = some k → F k ∧ k ≠ a
  cB : ∀ k, vC.ownBlock = some k → F k ∧ k ≠ a ∧ vT.ownBlock ≠ some k
  fB : ∀ k, vF.ownBlock = some k → F k ∧ k ≠ a ∧ vT.ownBlock ≠ some k ∧ vC.ownBlock ≠ some k
  lt : ∀ k, F k → k < w.heap.size
def cnts (l : List (Value × Nat)) : List Value := l.map fun s => Value.int .i64 (s.2 : Nat)
def frs (l : List Nat) : List Value := l.map fun n => Value.int .i64 (n : Nat)
def Told (l : List (Value × Nat)) (ts : List Value) : Prop := ∀ (m : Nat) (s : Value × Nat), l[m]? = some s → s.2 ≠ 0 → ts[m]? = some s.1
theorem At.open {w : World} {a : Nat} {F : Nat → Prop} {σ : SlabSt} (h : At w a F σ) : ∃ vT vC vF ts, Open w a F σ.room σ.slots.length σ.slots.length σ.free.length vT vC vF ts (cnts σ.slots) (frs σ.free) ∧ Told σ.slots ts := by
  obtain ⟨vT, vC, vF, ts, h1, h2, h3, h4, h5, h6, h7, h8, h9, h10⟩ := h
  exact ⟨vT, vC, vF, ts, ⟨h1, h2, h4, h5, h6, h7, h8, h9, h10⟩, h3⟩
theorem Open.shut {w : World} {a : Nat} {F : Nat → Prop} {σ : SlabSt} {vT vC vF : Value} {ts : List Value} (h : Open w a F σ.room σ.slots.length σ.slots.length σ.free.length vT vC vF ts (cnts σ.slots) (frs σ.free)) (ht : Told σ.slots ts) : At w a F σ :=
  ⟨vT, vC, vF, ts, h.row, h.things, ht, h.counts, h.free, h.own, h.tB, h.cB, h.fB, h.lt⟩

section
variable {w : World} {a : Nat} {F : Nat → Prop} {room nT nC nf nf' : Nat} {vT vC vF : Value} {ts cs fs : List Value} (h : Open w a F room nT nC nf vT vC vF ts cs fs)
include h
theorem Open.adds {w' : World} (hc : Ch (fun _ => False) w w') : Open w' a F room nT nC nf vT vC vF ts cs fs :=
  ⟨hc.row h.row id, hc.owns h.things (fun _ _ h => h), hc.owns h.counts (fun _ _ h => h), hc.owns h.free (fun _ _ h => h), h.own, h.tB, h.cB, h.fB, fun k hk => Nat.lt_of_lt_of_le (h.lt k hk) hc.size⟩
omit h in
theorem row_set' {b nn : Nat} {v : Value} {xs : List Value} (hr : w.ownsRow b 3 1 v nn xs) {m g : Nat} (hg : v.ownBlock = some g) (hm : m < nn) (x : Value) : (w.setCell ⟨g, m, none⟩ x).ownsRow b 3 1 v nn (xs.set m x) := by
  obtain ⟨g', cT, curT, rfl, hgT, p1, p2, p3, p4⟩ := owns_block hr (by omega)
  cases hg
  have := (owns_mk' (row_set_same hgT m x) p1 p2 (by simpa using p3) (by rw [Array.toList_setIfInBounds, List.take_set, p4]) : (w.setCell ⟨g', m, none⟩ x).ownsRow 0 3 1 _ nn (xs.set m x))
  refine ⟨this.1, this.2.imp id fun ⟨g, cap, cur, h1, h2, h3⟩ => ⟨g, cap, cur, h1, ?_, h3⟩⟩
  cases h1
  exact (hr.lt _ rfl).1
/-- A thing is written over. -/
theorem Open.setT {m g : Nat} (hg : vT.ownBlock = some g) (hm : m < nT) (x : Value) : Open (w.setCell ⟨g, m, none⟩ x) a F room nT nC nf vT vC vF (ts.set m x) cs fs ∧ Ch F w (w.setCell ⟨g, m, none⟩ x) := by
  have hch : Ch (fun k => k = g) w (w.setCell ⟨g, m, none⟩ x) := (Ch.refl (fun k => k = g) w).setCell (p := ⟨g, m, none⟩) (.inl rfl) x
  have hF := h.tB g hg
  refine ⟨⟨hch.row h.row (fun e => hF.2 e.symm), row_set' h.things hg hm x, hch.owns h.counts (fun k hk e => (h.cB k hk).2.2 (by rw [hg, e])), hch.owns h.free (fun k hk e => (h.fB k hk).2.2.1 (by rw [hg, e])), h.own, h.tB, h.cB, h.fB, fun k hk => by have := h.lt k hk; simpa using this⟩, hch.mono (fun k _ hk => hk ▸ hF.1)⟩
/-- A count is written over. -/
theorem Open.setC {m g : Nat} (hg : vC.ownBlock = some g) (hm : m < nC) (x : Value) : Open (w.setCell ⟨g, m, none⟩ x) a F room nT nC nf vT vC vF ts (cs.set m x) fs ∧ Ch F w (w.setCell ⟨g, m, none⟩ x) := by
  have hch : Ch (fun k => k = g) w (w.setCell ⟨g, m, none⟩ x) := (Ch.refl (fun k => k = g) w).setCell (p := ⟨g, m, none⟩) (.inl rfl) x
  have hF := h.cB g hg
  refine ⟨⟨hch.row h.row (fun e => hF.2.1 e.symm), hch.owns h.things (fun k hk e => hF.2.2 (by rw [hk, e])), row_set' h.counts hg hm x, hch.owns h.free (fun k hk e => (h.fB k hk).2.2.2 (by rw [hg, e])), h.own, h.tB, h.cB, h.fB, fun k hk => by have := h.lt k hk; simpa using this⟩, hch.mono (fun k _ hk => hk ▸ hF.1)⟩
/-- The last free slot is taken off. -/
theorem Open.pop {f cap : Nat} {fs' : List Value} {y : Value} (hv : vF = .slice (some ⟨f, 0, none⟩) (nf' + 1) cap) (hn : nf = nf' + 1) (hf : fs = fs' ++ [y]) :
    Open (w.setCell ⟨a, 4, none⟩ (.slice (some ⟨f, 0, none⟩) nf' cap)) a F room nT nC nf' vT vC (.slice (some ⟨f, 0, none⟩) nf' cap) ts cs fs' ∧ Ch F w (w.setCell ⟨a, 4, none⟩ (.slice (some ⟨f, 0, none⟩) nf' cap)) := by
  subst hv hn
  have hch : Ch (fun k => k = a) w (w.setCell ⟨a, 4, none⟩ (.slice (some ⟨f, 0, none⟩) nf' cap)) := (Ch.refl (fun k => k = a) w).setCell (p := ⟨a, 4, none⟩) (.inl rfl) _
  obtain ⟨g', cT, curT, he, hgT, p1, p2, p3, p4⟩ := owns_block h.free (by omega)
  cases he
  have hfl : fs'.length = nf' := by have := h.free.1; rw [hf] at this; simp at this; omega
  have hfree : w.ownsRow 0 3 1 (.slice (some ⟨f, 0, none⟩) nf' cap) nf' fs' := by
    refine owns_mk' hgT (by omega) p2 p3 ?_
    have := congrArg (List.take (nf' * 1)) p4
    rw [List.take_take, Nat.min_eq_left (by omega), hf] at this
    rw [this, List.take_append_of_le_length (by omega), List.take_of_length_le (by omega)]
  refine ⟨⟨?_, hch.owns h.things (fun k hk e => (h.tB k hk).2 e), hch.owns h.counts (fun k hk e => (h.cB k hk).2.1 e), hch.owns hfree (fun k hk e => (h.fB k hk).2.1 e), h.own, h.tB, h.cB, fun k hk => h.fB k hk, fun k hk => by have := h.lt k hk; simpa using this⟩, hch.mono (fun k _ hk => hk ▸ h.own)⟩
  exact row_set_same h.row 4 _
/-- A grown row takes the things' place. -/
theorem Open.newT {w1 : World} {v : Value} {n1 : Nat} {xs1 : List Value} (hown : w1.ownsRow 0 3 1 v n1 xs1) (hg : Ch (fun k => vT.ownBlock = some k) w w1) (hl : ∀ k, v.ownBlock = some k → vT.ownBlock = some k ∨ w.heap.size ≤ k) :
    Open (w1.setCell ⟨a, 2, none⟩ v) a (fun k => F k ∨ (w.heap.size ≤ k ∧ k < w1.heap.size)) room n1 nC nf v vC vF xs1 cs fs ∧ Ch F w (w1.setCell ⟨a, 2, none⟩ v) := by
  have hch : Ch (fun k => k = a) w1 (w1.setCell ⟨a, 2, none⟩ v) := (Ch.refl (fun k => k = a) w1).setCell (p := ⟨a, 2, none⟩) (.inl rfl) _
  have hla := h.lt a h.own
  have hva : ∀ k, v.ownBlock = some k → k ≠ a := fun k hk e => by
    rcases hl k hk with h1 | h1
    · exact (h.tB k h1).2 e
    · omega
  have hrow := hg.row h.row (fun e => (h.tB a e).2 rfl)
  have hnew : ∀ k, v.ownBlock = some k → F k ∨ (w.heap.size ≤ k ∧ k < w1.heap.size) := fun k hk => by
    rcases hl k hk with h1 | h1
    · exact .inl (h.tB k h1).1
    · exact .inr ⟨h1, (hown.lt k hk).2⟩
  have hfar : ∀ k, F k → v.ownBlock = some k → vT.ownBlock = some k := fun k hf hk => by
    rcases hl k hk with h1 | h1
    · exact h1
    · have := h.lt k hf; omega
  refine ⟨⟨row_set_same hrow 2 _, hch.owns hown (fun k hk e => hva k hk e), hch.owns (hg.owns h.counts (fun k hk e => (h.cB k hk).2.2 e)) (fun k hk e => (h.cB k hk).2.1 e), hch.owns (hg.owns h.free (fun k hk e => (h.fB k hk).2.2.1 e)) (fun k hk e => (h.fB k hk).2.1 e), .inl h.own,
    fun k hk => ⟨hnew k hk, hva k hk⟩, fun k hk => ⟨.inl (h.cB k hk).1, (h.cB k hk).2.1, fun e => (h.cB k hk).2.2 (hfar k (h.cB k hk).1 e)⟩, fun k hk => ⟨.inl (h.fB k hk).1, (h.fB k hk).2.1, fun e => (h.fB k hk).2.2.1 (hfar k (h.fB k hk).1 e), (h.fB k hk).2.2.2⟩, fun k hk => ?_⟩,
    (hg.mono (fun k _ hk => (h.tB k hk).1)).trans hch (fun k hk => .inl (hk ▸ h.own))⟩
  · have := hg.size
    rcases hk with hk | hk
    · have := h.lt k hk; simp; omega
    · simpa using hk.2
/-- A grown row takes the counts' place. -/
theorem Open.newC {w1 : World} {v : Value} {n1 : Nat} {xs1 : List Value} (hown : w1.ownsRow 0 3 1 v n1 xs1) (hg : Ch (fun k => vC.ownBlock = some k) w w1) (hl : ∀ k, v.ownBlock = some k → vC.ownBlock = some k ∨ w.heap.size ≤ k) :
    Open (w1.setCell ⟨a, 3, none⟩ v) a (fun k => F k ∨ (w.heap.size ≤ k ∧ k < w1.heap.size)) room nT n1 nf vT v vF ts xs1 fs ∧ Ch F w (w1.setCell ⟨a, 3, none⟩ v) := by
  have hch : Ch (fun k => k = a) w1 (w1.setCell ⟨a, 3, none⟩ v) := (Ch.refl (fun k => k = a) w1).setCell (p := ⟨a, 3, none⟩) (.inl rfl) _
  have hla := h.lt a h.own
  have hva : ∀ k, v.ownBlock = some k → k ≠ a := fun k hk e => by
    rcases hl k hk with h1 | h1
    · exact (h.cB k h1).2.1 e
    · omega
  have hrow := hg.row h.row (fun e => (h.cB a e).2.1 rfl)
  have hnew : ∀ k, v.ownBlock = some k → F k ∨ (w.heap.size ≤ k ∧ k < w1.heap.size) := fun k hk => by
    rcases hl k hk with h1 | h1
    · exact .inl (h.cB k h1).1
    · exact .inr ⟨h1, (hown.lt k hk).2⟩
  have hfar : ∀ k, F k → v.ownBlock = some k → vC.ownBlock = some k := fun k hf hk => by
    rcases hl k hk with h1 | h1
    · exact h1
    · have := h.lt k hf; omega
  refine ⟨⟨row_set_same hrow 3 _, hch.owns (hg.owns h.things (fun k hk e => (h.cB k e).2.2 hk)) (fun k hk e => (h.tB k hk).2 e), hch.owns hown (fun k hk e => hva k hk e), hch.owns (hg.owns h.free (fun k hk e => (h.fB k hk).2.2.2 e)) (fun k hk e => (h.fB k hk).2.1 e), .inl h.own,
    fun k hk => ⟨.inl (h.tB k hk).1, (h.tB k hk).2⟩, fun k hk => ⟨hnew k hk, hva k hk, fun e => ?_⟩, fun k hk => ⟨.inl (h.fB k hk).1, (h.fB k hk).2.1, (h.fB k hk).2.2.1, fun e => (h.fB k hk).2.2.2 (hfar k (h.fB k hk).1 e)⟩, fun k hk => ?_⟩,
    (hg.mono (fun k _ hk => (h.cB k hk).1)).trans hch (fun k hk => .inl (hk ▸ h.own))⟩
  · exact (h.cB k (hfar k (h.tB k e).1 hk)).2.2 e
  · have := hg.size
    rcases hk with hk | hk
    · have := h.lt k hk; simp; omega
    · simpa using hk.2
/-- A grown row takes the free slots' place. -/
theorem Open.newF {w1 : World} {v : Value} {n1 : Nat} {xs1 : List Value} (hown : w1.ownsRow 0 3 1 v n1 xs1) (hg : Ch (fun k => vF.ownBlock = some k) w w1) (hl : ∀ k, v.ownBlock = some k → vF.ownBlock = some k ∨ w.heap.size ≤ k) :
    Open (w1.setCell ⟨a, 4, none⟩ v) a (fun k => F k ∨ (w.heap.size ≤ k ∧ k < w1.heap.size)) room nT nC n1 vT vC v ts cs xs1 ∧ Ch F w (w1.setCell ⟨a, 4, none⟩ v) := by
  have hch : Ch (fun k => k = a) w1 (w1.setCell ⟨a, 4, none⟩ v) := (Ch.refl (fun k => k = a) w1).setCell (p := ⟨a, 4, none⟩) (.inl rfl) _
  have hla := h.lt a h.own
  have hva : ∀ k, v.ownBlock = some k → k ≠ a := fun k hk e => by
    rcases hl k hk with h1 | h1
    · exact (h.fB k h1).2.1 e
    · omega
  have hrow := hg.row h.row (fun e => (h.fB a e).2.1 rfl)
  have hnew : ∀ k, v.ownBlock = some k → F k ∨ (w.heap.size ≤ k ∧ k < w1.heap.size) := fun k hk => by
    rcases hl k hk with h1 | h1
    · exact .inl (h.fB k h1).1
    · exact .inr ⟨h1, (hown.lt k hk).2⟩
  have hfar : ∀ k, F k → v.ownBlock = some k → vF.ownBlock = some k := fun k hf hk => by
    rcases hl k hk with h1 | h1
    · exact h1
    · have := h.lt k hf; omega
  refine ⟨⟨row_set_same hrow 4 _, hch.owns (hg.owns h.things (fun k hk e => (h.fB k e).2.2.1 hk)) (fun k hk e => (h.tB k hk).2 e), hch.owns (hg.owns h.counts (fun k hk e => (h.fB k e).2.2.2 hk)) (fun k hk e => (h.cB k hk).2.1 e), hch.owns hown (fun k hk e => hva k hk e), .inl h.own,
    fun k hk => ⟨.inl (h.tB k hk).1, (h.tB k hk).2⟩, fun k hk => ⟨.inl (h.cB k hk).1, (h.cB k hk).2.1, (h.cB k hk).2.2⟩, fun k hk => ⟨hnew k hk, hva k hk, fun e => ?_, fun e => ?_⟩, fun k hk => ?_⟩,
    (hg.mono (fun k _ hk => (h.fB k hk).1)).trans hch (fun k hk => .inl (hk ▸ h.own))⟩
  · exact (h.fB k (hfar k (h.tB k e).1 hk)).2.2.1 e
  · exact (h.fB k (hfar k (h.cB k e).1 hk)).2.2.2 e
  · have := hg.size
    rcases hk with hk | hk
    · have := h.lt k hk; simp; omega
    · simpa using hk.2
end
end Go.Proofs.Ytdgdpbmaalcedaa.Ref6
