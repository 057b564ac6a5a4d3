/- The slab's contracts for laws: one slab that the law itself made ('Live'). -/
import Derived.Test.YtdgdpbmaalcedaaSlabGS
namespace Go.Proofs.Ytdgdpbmaalcedaa.SlabS
open Go Go.RowKit
set_option linter.unusedVariables false

/-- A slab made since 'w0', and nothing that stood at 'w0' has changed. -/
def Live (w0 w : World) (a : Nat) (σ : SlabSt) : Prop := ∃ F, At OkV w a F σ ∧ (∀ k, F k → w0.heap.size ≤ k) ∧ Adds w0 w

theorem Live.wf {w0 w : World} {a : Nat} {σ : SlabSt} (h : Live w0 w a σ) : σ.WF OkV := h.elim fun _ h => h.1.1
theorem Live.adds {w0 w : World} {a : Nat} {σ : SlabSt} (h : Live w0 w a σ) : Adds w0 w := h.elim fun _ h => h.2.2
theorem Live.moved {w0 w w' : World} {a : Nat} {σ σ' : SlabSt} {F : Nat → Prop} (hF : ∀ k, F k → w0.heap.size ≤ k) (ha : Adds w0 w) (h : Moved w w' a F σ') : Live w0 w' a σ' := by
  obtain ⟨F', h1, h2, h3⟩ := h
  exact ⟨F', h1, fun k hk => (h3 k hk).elim (hF k) (fun h => Nat.le_trans ha.size h), ha.trans h2 (fun k hk => .inr (hF k hk))⟩
theorem Live.later {w0 w w' : World} {a : Nat} {σ : SlabSt} (h : Live w0 w a σ) (ha : Adds w w') : Live w0 w' a σ := by
  obtain ⟨F, h1, h2, h3⟩ := h
  exact ⟨F, h1.keep ha (fun _ _ h => h), h2, h3.trans ha (fun _ h => h.elim)⟩

theorem New_live (n : Nat) (w0 w : World) (ha : Adds w0 w) (h1 : 1 ≤ n) (h2 : n ≤ 65536) :
    Calls Try.prog 12 #[.int .i64 n] w fun e w' => e = .returned (.tuple #[.pointer (some ⟨w.heap.size, 0, none⟩), .int .i64 0]) ∧ Live w0 w' w.heap.size ⟨n, [], []⟩ ∧ Adds w w' :=
  (New_ok n w h1 h2).mono fun _ _ ⟨he, h3, h4, _⟩ => ⟨he, ⟨_, h3, fun k hk => hk ▸ ha.size, ha.trans h4 (fun _ h => h.elim)⟩, h4⟩
theorem Take_live {w0 w : World} {a : Nat} {σ : SlabSt} (h : Live w0 w a σ) (x : Value) (hx : OkV x) :
    Calls Try.prog 14 #[.pointer (some ⟨a, 0, none⟩), x] w fun e w' => e = .returned (.tuple #[.int .i64 (σ.take x).1, .int .i64 (σ.take x).2.1]) ∧ Live w0 w' a (σ.take x).2.2 := by
  obtain ⟨F, h1, h2, h3⟩ := h
  exact (Take_ok h1 x hx).mono fun _ _ ⟨he, hm⟩ => ⟨he, Live.moved (σ := σ) h2 h3 hm⟩
theorem Hold_live {w0 w : World} {a : Nat} {σ : SlabSt} (h : Live w0 w a σ) (n : Int) :
    Calls Try.prog 56 #[.pointer (some ⟨a, 0, none⟩), .int .i64 n] w fun e w' => e = .returned (.int .i64 (σ.hold n).1) ∧ Live w0 w' a (σ.hold n).2 := by
  obtain ⟨F, h1, h2, h3⟩ := h
  exact (Hold_ok h1 n).mono fun _ _ ⟨he, hm⟩ => ⟨he, Live.moved (σ := σ) h2 h3 hm⟩
theorem Drop_live {w0 w : World} {a : Nat} {σ : SlabSt} (h : Live w0 w a σ) (n : Int) :
    Calls Try.prog 15 #[.pointer (some ⟨a, 0, none⟩), .int .i64 n] w fun e w' => e = .returned (.tuple #[.bool (σ.drop zero n).1, .int .i64 (σ.drop zero n).2.1]) ∧ Live w0 w' a (σ.drop zero n).2.2 := by
  obtain ⟨F, h1, h2, h3⟩ := h
  exact (Drop_ok h1 n).mono fun _ _ ⟨he, hm⟩ => ⟨he, Live.moved (σ := σ) h2 h3 hm⟩
theorem Get_live {w0 w : World} {a : Nat} {σ : SlabSt} (h : Live w0 w a σ) (n : Int) :
    Calls Try.prog 57 #[.pointer (some ⟨a, 0, none⟩), .int .i64 n] w fun e w' => e = .returned (.tuple #[got σ n, .int .i64 (gotErr σ n)]) ∧ Live w0 w' a σ := by
  have h' := h
  obtain ⟨F, h1, h2, h3⟩ := h
  exact (Get_ok h1 n).mono fun _ _ ⟨he, hm⟩ => ⟨he, h'.later hm⟩
theorem Len_live {w0 w : World} {a : Nat} {σ : SlabSt} (h : Live w0 w a σ) :
    Calls Try.prog 58 #[.pointer (some ⟨a, 0, none⟩)] w fun e w' => e = .returned (.int .i64 σ.used) ∧ w = w' := by
  obtain ⟨F, h1, h2, h3⟩ := h
  exact Len_ok h1

end Go.Proofs.Ytdgdpbmaalcedaa.SlabS
