/- SlabScript: the slab beside the document's; calls that turn both. -/
import Derived.Test.YtdgdpbmaalcedaaGone6
import Derived.Test.YtdgdpbmaalcedaaSlabSI
import Derived.Test.YtdgdpbmaalcedaaPlan
namespace Go.Proofs.Ytdgdpbmaalcedaa
open Go Go.RowKit
set_option maxHeartbeats 1600000
set_option linter.unusedVariables false

/-- The two slabs, beside one another. -/
def PairAt (w : World) (A B : Nat) (F : Nat → Prop) (σ τ : SlabSt) : Prop :=
  ∃ F1 F2, SlabI.At SlabI.OkV w A F1 σ ∧ Ref6.At w B F2 τ ∧ (∀ k, F1 k → ¬ F2 k) ∧ (∀ k, F1 k → F k) ∧ (∀ k, F2 k → F k) ∧ (∀ k, F k → k < w.heap.size) ∧ Nums σ
def PairMoved (w w' : World) (A B : Nat) (F : Nat → Prop) (σ τ : SlabSt) : Prop := ∃ F', PairAt w' A B F' σ τ ∧ Ch F w w' ∧ ∀ k, F' k → F k ∨ w.heap.size ≤ k
section
variable {w w' : World} {A B : Nat} {F : Nat → Prop} {σ τ σ' τ' : SlabSt}
theorem PairAt.adds (h : PairAt w A B F σ τ) (ha : Ref6.Adds w w') : PairAt w' A B F σ τ := by
  obtain ⟨F1, F2, h1, h2, h3, h4, h5, h6, h7⟩ := h
  exact ⟨F1, F2, h1.keep ha (fun _ _ h => h), h2.keep ha (fun _ _ h => h), h3, h4, h5, fun k hk => Nat.lt_of_lt_of_le (h6 k hk) ha.size, h7⟩
theorem PairAt.same (h : PairAt w A B F σ τ) (ha : Ref6.Adds w w') : PairMoved w w' A B F σ τ := ⟨F, h.adds ha, ha.mono (fun _ _ h => h.elim), fun k hk => .inl hk⟩
theorem PairAt.wf (h : PairAt w A B F σ τ) : σ.WF SlabI.OkV := by obtain ⟨F1, F2, h1, _⟩ := h; exact h1.1
theorem PairAt.nums (h : PairAt w A B F σ τ) : Nums σ := by obtain ⟨_, _, _, _, _, _, _, _, h⟩ := h; exact h
theorem PairAt.lt (h : PairAt w A B F σ τ) : ∀ k, F k → k < w.heap.size := by obtain ⟨_, _, _, _, _, _, _, h, _⟩ := h; exact h
theorem PairAt.slab (h : PairAt w A B F σ τ) : ∃ F1, SlabI.At SlabI.OkV w A F1 σ ∧ ∀ w' σ', Nums σ' → SlabI.Moved w w' A F1 σ' → PairMoved w w' A B F σ' τ := by
  obtain ⟨F1, F2, h1, h2, h3, h4, h5, h6, h7⟩ := h
  refine ⟨F1, h1, fun w' σ' hn hm => ?_⟩
  obtain ⟨F1', g1, g2, g3⟩ := hm
  have hl1 : ∀ k, F1' k → k < w'.heap.size := by
    obtain ⟨_, _, _, _, _, _, _, _, _, hall⟩ := g1
    exact hall
  refine ⟨fun k => F k ∨ (w.heap.size ≤ k ∧ k < w'.heap.size), ⟨F1', F2, g1, h2.keep g2 (fun k hk hf => h3 k hf hk), fun k hk hk2 => ?_, fun k hk => ?_, fun k hk => .inl (h5 k hk), fun k hk => ?_, hn⟩, g2.mono (fun k _ hk => h4 k hk), fun k hk => hk.imp id (fun h => h.1)⟩
  · rcases g3 k hk with h | h
    · exact h3 k h hk2
    · have := h6 k (h5 k hk2); omega
  · rcases g3 k hk with h | h
    · exact .inl (h4 k h)
    · exact .inr ⟨h, hl1 k hk⟩
  · rcases hk with h | h
    · exact Nat.lt_of_lt_of_le (h6 k h) g2.size
    · exact h.2
theorem PairAt.doc (h : PairAt w A B F σ τ) : ∃ F2, Ref6.At w B F2 τ ∧ ∀ w' τ', Ref6.Moved w w' B F2 τ' → PairMoved w w' A B F σ τ' := by
  obtain ⟨F1, F2, h1, h2, h3, h4, h5, h6, h7⟩ := h
  refine ⟨F2, h2, fun w' τ' hm => ?_⟩
  obtain ⟨F2', g1, g2, g3⟩ := hm
  have hl1 : ∀ k, F2' k → k < w'.heap.size := by
    obtain ⟨_, _, _, _, _, _, _, _, _, _, _, _, _, hall⟩ := g1
    exact hall
  refine ⟨fun k => F k ∨ (w.heap.size ≤ k ∧ k < w'.heap.size), ⟨F1, F2', h1.keep g2 (fun k hk hf => h3 k hk hf), g1, fun k hk hk2 => ?_, fun k hk => .inl (h4 k hk), fun k hk => ?_, fun k hk => ?_, h7⟩, g2.mono (fun k _ hk => h5 k hk), fun k hk => hk.imp id (fun h => h.1)⟩
  · rcases g3 k hk2 with h | h
    · exact h3 k hk h
    · have := h6 k (h4 k hk); omega
  · rcases g3 k hk with h | h
    · exact .inl (h5 k h)
    · exact .inr ⟨h, hl1 k hk⟩
  · rcases hk with h | h
    · exact Nat.lt_of_lt_of_le (h6 k h) g2.size
    · exact h.2
theorem PairMoved.then {w1 w2 : World} (h : PairMoved w w1 A B F σ τ) (hs : ∀ F1, PairAt w1 A B F1 σ τ → PairMoved w1 w2 A B F1 σ' τ') : PairMoved w w2 A B F σ' τ' := by
  obtain ⟨F1, h1, h2, h3⟩ := h
  obtain ⟨F2, g1, g2, g3⟩ := hs F1 h1
  exact ⟨F2, g1, h2.trans g2 h3, fun k hk => (g3 k hk).elim (h3 k) (fun h => .inr (Nat.le_trans h2.size h))⟩
theorem PairMoved.from {w1 w2 : World} (ha : Ref6.Adds w w1) (h : PairMoved w1 w2 A B F σ τ) : PairMoved w w2 A B F σ τ := by
  obtain ⟨F1, h1, h2, h3⟩ := h
  exact ⟨F1, h1, (ha.mono (G := F) (fun _ _ h => h.elim)).trans h2 (fun k hk => .inl hk), fun k hk => (h3 k hk).imp id (fun h => Nat.le_trans ha.size h)⟩
theorem PairMoved.row (h : PairMoved w w' A B F σ τ) {g : Nat} {o : Obj} (hg : w.heap[g]? = some o) (hn : ¬ F g) : w'.heap[g]? = some o := by
  obtain ⟨F1, h1, h2, h3⟩ := h
  exact h2.row hg hn
end
theorem Nums.set {σ : SlabSt} (h : Nums σ) {l : List (Value × Nat)} (hl : ∀ s ∈ l, s ∈ σ.slots ∨ ∃ n : Int, s.1 = .int .i64 n) : ∀ s ∈ l, ∃ n : Int, s.1 = .int .i64 n := fun s hs => (hl s hs).elim (h s) id
theorem mem_set_or {α : Type} {l : List α} {m : Nat} {y x : α} (h : x ∈ l.set m y) : x ∈ l ∨ x = y := List.mem_or_eq_of_mem_set h
theorem Nums.take {σ : SlabSt} (h : Nums σ) (x : Int) : Nums (σ.take (.int .i64 x)).2.2 := by
  unfold SlabSt.take
  split
  · exact h
  · split
    · intro s hs
      rcases mem_set_or hs with hs | rfl
      · exact h s hs
      · exact ⟨x, rfl⟩
    · intro s hs
      rcases List.mem_append.1 hs with hs | hs
      · exact h s hs
      · rw [List.mem_singleton.1 hs]; exact ⟨x, rfl⟩
theorem Nums.setAt {σ : SlabSt} (h : Nums σ) (n : Int) (s : Value × Nat) (hs : ∃ y : Int, s.1 = .int .i64 y) : Nums (σ.setAt n s) := fun t ht => by
  rcases mem_set_or ht with ht | rfl
  · exact h t ht
  · exact hs
theorem Nums.got {σ : SlabSt} (h : Nums σ) {n : Int} {s : Value × Nat} (hs : σ.get? n = some s) : ∃ y : Int, s.1 = .int .i64 y := by
  obtain ⟨m, _, hm, _, _⟩ := SlabSt.get?_some hs
  exact h s (List.mem_of_getElem? hm)
theorem Nums.hold {σ : SlabSt} (h : Nums σ) (n : Int) : Nums (σ.hold n).2 := by
  unfold SlabSt.hold
  cases hs : σ.get? n with
  | none => exact h
  | some s =>
    simp only
    split
    · exact h
    · exact h.setAt _ _ (h.got (s := s) hs)
theorem Nums.drop {σ : SlabSt} (h : Nums σ) (n : Int) : Nums (σ.drop SlabI.zero n).2.2 := by
  unfold SlabSt.drop
  cases hs : σ.get? n with
  | none => exact h
  | some s =>
    simp only
    split
    · exact fun t ht => h.setAt n (SlabI.zero, 0) ⟨0, Option.some.inj (SlabI.zero_is.symm.trans (by kernel_rfl))⟩ t ht
    · exact h.setAt _ _ (h.got (s := s) hs)
theorem Nums.put {σ : SlabSt} (h : Nums σ) (n x : Int) : Nums (σ.set n (.int .i64 x)).2 := by
  unfold SlabSt.set
  cases hs : σ.get? n with
  | none => exact h
  | some s => exact h.setAt _ _ ⟨x, rfl⟩

theorem okI (x : Int) : SlabI.OkV (.int .i64 x) := by first | exact ⟨rfl, rfl⟩ | exact ⟨_, rfl⟩
section
variable {w : World} {A B : Nat} {F : Nat → Prop} {σ τ : SlabSt}
theorem take_s (h : PairAt w A B F σ τ) (x : Int) : Calls Try.prog 61 #[.pointer (some ⟨A, 0, none⟩), .int .i64 x] w fun e w' => e = .returned (.tuple #[.int .i64 (σ.take (.int .i64 x)).1, .int .i64 (σ.take (.int .i64 x)).2.1]) ∧ PairMoved w w' A B F (σ.take (.int .i64 x)).2.2 τ := by
  obtain ⟨F1, h1, hm⟩ := h.slab
  exact (SlabI.Take_ok h1 _ (okI x)).mono fun e w' ⟨he, hq⟩ => ⟨he, hm _ _ (h.nums.take x) hq⟩
theorem take_d (h : PairAt w A B F σ τ) (hwf : τ.WF SlabI.OkV) (x : Int) : Calls Try.prog 62 #[.pointer (some ⟨B, 0, none⟩), .int .i64 x] w fun e w' => e = .returned (.tuple #[.int .i64 (τ.take (.int .i64 x)).1, .int .i64 (τ.take (.int .i64 x)).2.1]) ∧ PairMoved w w' A B F σ (τ.take (.int .i64 x)).2.2 := by
  obtain ⟨F1, h1, hm⟩ := h.doc
  exact (Ref6.Take_ok h1 hwf x).mono fun e w' ⟨he, hq⟩ => ⟨he, hm _ _ hq⟩
theorem hold_s (h : PairAt w A B F σ τ) (n : Int) : Calls Try.prog 63 #[.pointer (some ⟨A, 0, none⟩), .int .i64 n] w fun e w' => e = .returned (.int .i64 (σ.hold n).1) ∧ PairMoved w w' A B F (σ.hold n).2 τ := by
  obtain ⟨F1, h1, hm⟩ := h.slab
  exact (SlabI.Hold_ok h1 n).mono fun e w' ⟨he, hq⟩ => ⟨he, hm _ _ (h.nums.hold n) hq⟩
theorem hold_d (h : PairAt w A B F σ τ) (hwf : τ.WF SlabI.OkV) (n : Int) : Calls Try.prog 64 #[.pointer (some ⟨B, 0, none⟩), .int .i64 n] w fun e w' => e = .returned (.int .i64 (τ.hold n).1) ∧ PairMoved w w' A B F σ (τ.hold n).2 := by
  obtain ⟨F1, h1, hm⟩ := h.doc
  exact (Ref6.Hold_ok h1 (by have := hwf.len; have := hwf.room; omega) hwf.counts n).mono fun e w' ⟨he, hq⟩ => ⟨he, hm _ _ hq⟩
theorem drop_s (h : PairAt w A B F σ τ) (n : Int) : Calls Try.prog 65 #[.pointer (some ⟨A, 0, none⟩), .int .i64 n] w fun e w' => e = .returned (.tuple #[.bool (σ.drop SlabI.zero n).1, .int .i64 (σ.drop SlabI.zero n).2.1]) ∧ PairMoved w w' A B F (σ.drop SlabI.zero n).2.2 τ := by
  obtain ⟨F1, h1, hm⟩ := h.slab
  exact (SlabI.Drop_ok h1 n).mono fun e w' ⟨he, hq⟩ => ⟨he, hm _ _ (h.nums.drop n) hq⟩
theorem drop_d (h : PairAt w A B F σ τ) (hwf : τ.WF SlabI.OkV) (n : Int) : Calls Try.prog 66 #[.pointer (some ⟨B, 0, none⟩), .int .i64 n] w fun e w' => e = .returned (.tuple #[.bool (τ.drop SlabI.zero n).1, .int .i64 (τ.drop SlabI.zero n).2.1]) ∧ PairMoved w w' A B F σ (τ.drop SlabI.zero n).2.2 := by
  obtain ⟨F1, h1, hm⟩ := h.doc
  exact (Ref6.Drop_ok h1 (by have := hwf.len; have := hwf.room; omega) hwf.counts (by have := hwf.len; have := hwf.room; have := hwf.free_le; omega) SlabI.zero n).mono fun e w' ⟨he, hq⟩ => ⟨he, hm _ _ hq⟩
theorem set_s (h : PairAt w A B F σ τ) (n x : Int) : Calls Try.prog 71 #[.pointer (some ⟨A, 0, none⟩), .int .i64 n, .int .i64 x] w fun e w' => e = .returned (.int .i64 (σ.set n (.int .i64 x)).1) ∧ PairMoved w w' A B F (σ.set n (.int .i64 x)).2 τ := by
  obtain ⟨F1, h1, hm⟩ := h.slab
  exact (SlabI.Set_ok h1 n _ (okI x)).mono fun e w' ⟨he, hq⟩ => ⟨he, hm _ _ (h.nums.put n x) hq⟩
theorem set_d (h : PairAt w A B F σ τ) (hwf : τ.WF SlabI.OkV) (n x : Int) : Calls Try.prog 72 #[.pointer (some ⟨B, 0, none⟩), .int .i64 n, .int .i64 x] w fun e w' => e = .returned (.int .i64 (τ.set n (.int .i64 x)).1) ∧ PairMoved w w' A B F σ (τ.set n (.int .i64 x)).2 := by
  obtain ⟨F1, h1, hm⟩ := h.doc
  exact (Ref6.Set_ok h1 (by have := hwf.len; have := hwf.room; omega) n x).mono fun e w' ⟨he, hq⟩ => ⟨he, hm _ _ hq⟩
end

end Go.Proofs.Ytdgdpbmaalcedaa
