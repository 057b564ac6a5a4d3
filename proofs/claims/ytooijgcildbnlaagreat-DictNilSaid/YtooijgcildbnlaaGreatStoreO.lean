/- A store that the law itself has made: the contracts once more. -/
import Derived.Test.YtooijgcildbnlaaGreatStoreN
import Derived.Test.YtooijgcildbnlaaGreatStoreE
import Derived.Test.YtooijgcildbnlaaGreatStoreP1
namespace Go.Proofs.YtooijgcildbnlaaGreat.Store
open Go Go.RowKit Go.Proofs.YtooijgcildbnlaaGreat Go.Proofs.YtooijgcildbnlaaGreat.ShaW Go.Proofs.YtooijgcildbnlaaGreat.Path
set_option maxHeartbeats 800000
set_option linter.unusedVariables false

/-- The store at block 's' has been made since 'w0'. -/
def Own (w0 w : World) (s : Nat) (σ : SlabSt Nd) : Prop := ∃ F, At w s F σ ∧ (∀ k, F k → w0.heap.size ≤ k) ∧ Adds w0 w
variable {w0 w w' : World} {s : Nat} {σ σ' : SlabSt Nd}
theorem Own.adds (h : Own w0 w s σ) (ha : Adds w w') : Own w0 w' s σ := by
  obtain ⟨F, h1, h2, h3⟩ := h
  exact ⟨F, h1.adds ha, h2, h3.trans ha (fun _ h => h.elim)⟩
theorem Own.world (h : Own w0 w s σ) : Adds w0 w := by obtain ⟨F, _, _, h3⟩ := h; exact h3
theorem Own.moved {F : Nat → Prop} (h2 : ∀ k, F k → w0.heap.size ≤ k) (h3 : Adds w0 w) (hm : Moved w w' s F σ') : Own w0 w' s σ' := by
  obtain ⟨F', g1, g2, g3⟩ := hm
  exact ⟨F', g1, fun k hk => (g3 k hk).elim (h2 k) (fun h => Nat.le_trans h3.size h), h3.trans g2 (fun k hk => .inr (h2 k hk))⟩
/-- What lies elsewhere stays. -/
theorem Own.kept (h : Own w0 w s σ) {F : Nat → Prop} (h1 : At w s F σ) (h2 : ∀ k, F k → w0.heap.size ≤ k) (h3 : Adds w0 w) : Own w0 w s σ := ⟨F, h1, h2, h3⟩
theorem New_own (n : Nat) (w : World) (h1 : 1 ≤ n) (h2 : n ≤ 65536) :
    Calls Tryz.prog 88 #[.int .i64 n] w fun e w' => ∃ s, e = .returned (.tuple #[.pointer (some ⟨s, 0, none⟩), .int .i64 0]) ∧ Own w w' s ⟨n, [], []⟩ :=
  (New_ok n w h1 h2).mono fun e w' ⟨s, F, he, ha, hf, hc⟩ => ⟨s, he, F, ha, hf, hc⟩
theorem Own.leaf (h : Own w0 w s σ) (key : List UInt8) (hk : key.length = 32) {vv : Value} {bs : List UInt8} (hb : Bytes w vv bs) (hv : bs ≠ [] → ∀ k, vv.ownBlock = some k → k < w.heap.size) :
    Calls Tryz.prog 174 #[.pointer (some ⟨s, 0, none⟩), .agg (brow key), vv] w fun e w' => ∃ v, e = .returned (.tuple #[.int .i64 (leafS σ key bs v).1, .int .i64 (leafS σ key bs v).2.1]) ∧ Own w0 w' s (leafS σ key bs v).2.2 := by
  obtain ⟨F, h1, h2, h3⟩ := h
  exact (Leaf_ok h1 key hk hb hv).mono fun e w' ⟨v, he, hm⟩ => ⟨v, he, Own.moved h2 h3 hm⟩
theorem Own.inner (h : Own w0 w s σ) (d l r : Int) :
    Calls Tryz.prog 176 #[.pointer (some ⟨s, 0, none⟩), .int .i64 d, .int .i64 l, .int .i64 r] w fun e w' => e = .returned (.tuple #[.int .i64 (innerS σ d l r).1, .int .i64 (innerS σ d l r).2.1]) ∧ Own w0 w' s (innerS σ d l r).2.2 := by
  obtain ⟨F, h1, h2, h3⟩ := h
  exact (Inner_ok h1 d l r).mono fun e w' ⟨he, hm⟩ => ⟨he, Own.moved h2 h3 hm⟩
theorem Own.hold (h : Own w0 w s σ) (n : Int) :
    Calls Tryz.prog 119 #[.pointer (some ⟨s, 0, none⟩), .int .i64 n] w fun e w' => e = .returned (.int .i64 (holdS σ n).1) ∧ Own w0 w' s (holdS σ n).2 := by
  obtain ⟨F, h1, h2, h3⟩ := h
  exact (Hold_ok h1 n).mono fun e w' ⟨he, hm⟩ => ⟨he, Own.moved h2 h3 hm⟩
theorem Own.drop (h : Own w0 w s σ) (n : Int) :
    Calls Tryz.prog 23 #[.pointer (some ⟨s, 0, none⟩), .int .i64 n] w fun e w' => e = .returned (.tuple #[.int .i64 (dropS σ n).1, .int .i64 (dropS σ n).2.1]) ∧ Own w0 w' s (dropS σ n).2.2 := by
  obtain ⟨F, h1, h2, h3⟩ := h
  exact (Drop_ok h1 n).mono fun e w' ⟨he, hm⟩ => ⟨he, Own.moved h2 h3 hm⟩
theorem Own.size (h : Own w0 w s σ) (n : Int) : Calls Tryz.prog 99 #[.pointer (some ⟨s, 0, none⟩), .int .i64 n] w fun e w' => e = .returned (.int .i64 (nd σ n).size) ∧ Adds w w' := by
  obtain ⟨F, h1, h2, h3⟩ := h; exact Size_ok h1 n
theorem Own.heldC (h : Own w0 w s σ) (n : Int) : Calls Tryz.prog 229 #[.pointer (some ⟨s, 0, none⟩), .int .i64 n] w fun e w' => e = .returned (.int .i64 (nd σ n).held) ∧ Adds w w' := by
  obtain ⟨F, h1, h2, h3⟩ := h; exact Held_ok h1 n
theorem Own.countC (h : Own w0 w s σ) (n : Int) : Calls Tryz.prog 94 #[.pointer (some ⟨s, 0, none⟩), .int .i64 n] w fun e w' => e = .returned (.int .i64 (σ.count n : Nat)) ∧ w = w' := by
  obtain ⟨F, h1, h2, h3⟩ := h; exact Count_ok h1 n
theorem Own.sidesC (h : Own w0 w s σ) (n : Int) : Calls Tryz.prog 156 #[.pointer (some ⟨s, 0, none⟩), .int .i64 n] w fun e w' => e = .returned (.tuple #[.int .i64 (nd σ n).left, .int .i64 (nd σ n).right]) ∧ Adds w w' := by
  obtain ⟨F, h1, h2, h3⟩ := h; exact Sides_ok h1 n
theorem Own.occupied (h : Own w0 w s σ) : Calls Tryz.prog 63 #[.pointer (some ⟨s, 0, none⟩)] w fun e w' => e = .returned (.int .i64 (σ.used : Nat)) ∧ w = w' := by
  obtain ⟨F, h1, h2, h3⟩ := h; exact Occupied_ok h1
theorem Own.digest (h : Own w0 w s σ) (n : Int) : Calls Tryz.prog 100 #[.pointer (some ⟨s, 0, none⟩), .int .i64 n] w fun e w' => e = .returned (.agg (brow (digestOf σ n))) ∧ Adds w w' := by
  obtain ⟨F, h1, h2, h3⟩ := h; exact Digest_ok h1 n
theorem Own.root (h : Own w0 w s σ) (n : Int) : Calls Tryz.prog 80 #[.pointer (some ⟨s, 0, none⟩), .int .i64 n] w fun e w' => e = .returned (.int .i64 (rootErr σ n)) ∧ Adds w w' := by
  obtain ⟨F, h1, h2, h3⟩ := h; exact Root_ok h1 n
theorem Own.keyC (h : Own w0 w s σ) (n : Int) : Calls Tryz.prog 157 #[.pointer (some ⟨s, 0, none⟩), .int .i64 n] w fun e w' => e = .returned (.agg (brow (nd σ n).key)) ∧ Adds w w' := by
  obtain ⟨F, h1, h2, h3⟩ := h; exact Key_ok h1 n
theorem Own.handlesC (h : Own w0 w s σ) : Calls Tryz.prog 93 #[.pointer (some ⟨s, 0, none⟩)] w fun e w' => ∃ v, e = .returned v ∧ w'.ownsRow w.heap.size 3 1 v (handles σ).length (ints (handles σ)) ∧ Adds w w' := by
  obtain ⟨F, h1, h2, h3⟩ := h; exact Handles_ok h1
theorem Own.digest_length (h : Own w0 w s σ) (n : Int) : (digestOf σ n).length = 32 := by
  obtain ⟨F, h1, h2, h3⟩ := h; exact h1.digest_length n
/-- A key whose first byte is this one. -/
def keyL (b : UInt8) : List UInt8 := b :: List.replicate 31 0
theorem keyL_length (b : UInt8) : (keyL b).length = 32 := rfl

end Go.Proofs.YtooijgcildbnlaaGreat.Store
