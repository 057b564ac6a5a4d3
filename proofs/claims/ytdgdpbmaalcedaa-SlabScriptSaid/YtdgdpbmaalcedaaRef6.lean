/- The document's slab (rootcellarref06) in memory, beside the same plain state; what tells whether a slot is occupied. -/
import Derived.Test.YtdgdpbmaalcedaaSlabM
import Derived.Test.YtdgdpbmaalcedaaPlan
import Derived.Test.YtdgdpbmaalcedaaProg
import Derived.Deep.QuietTactic
import Derived.BigQuiet
import Derived.Lib.Hide
namespace Go.Proofs.Ytdgdpbmaalcedaa.Ref6
open Go Go.RowKit
set_option maxHeartbeats 400000
set_option linter.unusedVariables false

/-- The document's slab at block 'a', with its blocks 'F': things of slots that are not held are free to be anything. -/
def At (w : World) (a : Nat) (F : Nat → Prop) (σ : SlabSt) : Prop :=
  ∃ vT vC vF ts, w.heap[a]? = some (.cells #[.bool true, .int .i64 σ.room, vT, vC, vF] 113 (0, 0)) ∧
    w.ownsRow 0 3 1 vT σ.slots.length ts ∧ (∀ (m : Nat) (s : Value × Nat), σ.slots[m]? = some s → s.2 ≠ 0 → ts[m]? = some s.1) ∧
    w.ownsRow 0 3 1 vC σ.slots.length (σ.slots.map fun s => Value.int .i64 (s.2 : Nat)) ∧
    w.ownsRow 0 3 1 vF σ.free.length (σ.free.map fun n => Value.int .i64 (n : Nat)) ∧
    F a ∧ (∀ k, vT.ownBlock = some k → F k ∧ k ≠ a) ∧ (∀ k, vC.ownBlock = some k → F k ∧ k ≠ a ∧ vT.ownBlock ≠ some k) ∧ (∀ k, vF.ownBlock = some k → F k ∧ k ≠ a ∧ vT.ownBlock ≠ some k ∧ vC.ownBlock ≠ some k) ∧ (∀ k, F k → k < w.heap.size)

theorem At.keep {w w' : World} {a : Nat} {F G : Nat → Prop} {σ : SlabSt} (h : At w a F σ) (hc : Ch G w w') (hd : ∀ k, F k → ¬ G k) : At w' a F σ := by
  obtain ⟨vT, vC, vF, ts, h1, h2, h3, h4, h5, h6, h7, h8, h9, h10⟩ := h
  exact ⟨vT, vC, vF, ts, hc.row h1 (hd a h6), hc.owns h2 (fun k hk => hd k (h7 k hk).1), h3, hc.owns h4 (fun k hk => hd k (h8 k hk).1), hc.owns h5 (fun k hk => hd k (h9 k hk).1), h6, h7, h8, h9, fun k hk => Nat.lt_of_lt_of_le (h10 k hk) hc.size⟩

theorem none_no {w : World} {a : Nat} (h : w.cell? ⟨a, 0, none⟩ = some (.bool true)) :
    Calls Try.prog 101 #[.pointer (some ⟨a, 0, none⟩)] w fun e w' => e = .returned (.bool false) ∧ w = w' := by
  go_enter Try.func101, Try.ntmps101
  go_wp2
  go_ret
  exact ⟨rfl, rfl⟩

theorem there_ok {w : World} {a : Nat} {F : Nat → Prop} {σ : SlabSt} (h : At w a F σ) (hl : σ.slots.length ≤ 65536) (n : Int) :
    Calls Try.prog 121 #[.pointer (some ⟨a, 0, none⟩), .int .i64 n] w fun e w' => e = .returned (.bool (σ.get? n).isSome) ∧ w = w' := by
  obtain ⟨vT, vC, vF, ts, h1, h2, h3, h4, h5, h6, h7, h8, h9, h10⟩ := h
  obtain ⟨ao, cap, rfl⟩ := owns_form h4
  have d3 : w.cell? ⟨a, 3, none⟩ = some (.slice ao σ.slots.length cap) := row_cell h1 rfl
  by_cases hn1 : n < 1
  · have hg : σ.get? n = none := by unfold SlabSt.get?; rw [if_neg (by omega)]
    rw [hg]
    have hn1' : ¬ (1 ≤ n) := by omega
    clear h1 h2 h3 h4 h5 h6 h7 h8 h9 h10 hg
    go_enter Try.func121, Try.ntmps121
    go_wp2
    go_ret
    exact ⟨rfl, rfl⟩
  · by_cases hn2 : (σ.slots.length : Int) < n
    · have hg : σ.get? n = none := by unfold SlabSt.get?; rw [if_pos (by omega), List.getElem?_eq_none (by omega)]; rfl
      rw [hg]
      have hn1' : 1 ≤ n := by omega
      have hn2' : ¬ (n ≤ (σ.slots.length : Int)) := by omega
      clear h1 h2 h3 h4 h5 h6 h7 h8 h9 h10 hg
      go_enter Try.func121, Try.ntmps121
      go_wp2
      go_ret
      exact ⟨rfl, rfl⟩
    · obtain ⟨m, rfl⟩ : ∃ m : Nat, n = m + 1 := ⟨(n - 1).toNat, by omega⟩
      obtain ⟨s, hs⟩ : ∃ s, σ.slots[m]? = some s := ⟨_, List.getElem?_eq_getElem (by omega)⟩
      obtain ⟨g, cp, cur, hv, hg, q1, q2, q3, q4⟩ := owns_block h4 (by omega)
      cases hv
      have hc : w.cell? ⟨g, m, none⟩ = some (.int .i64 (s.2 : Nat)) := row_cell hg (take_get q4 (by simp [hs]))
      have hi1 : (m : Int) < (σ.slots.length : Int) := by omega
      have hi2 : (m : Int) ≤ 65535 := by omega
      have hi3 : m ≤ 65535 := by omega
      have hi4 : (m : Int) + 1 ≤ (σ.slots.length : Int) := by omega
      have hwi : IntKind.i64.wrap (m : Int) = (m : Int) := by rw [IntKind.wrap]; simp [IntKind.signed, IntKind.bits]; omega
      obtain ⟨c, hcv⟩ : ∃ c, c = s.2 := ⟨_, rfl⟩
      rw [← hcv] at hc
      have e : (σ.get? ((m : Int) + 1)).isSome = decide (0 < (c : Int)) := by
        by_cases h0 : s.2 = 0
        · cases hq : σ.get? ((m : Int) + 1) with
          | none => simp [hcv, h0]
          | some t =>
            obtain ⟨m', hm', ht', h0', _⟩ := SlabSt.get?_some hq
            obtain rfl : m' = m := by omega
            rw [hs] at ht'; cases ht'; exact absurd h0 h0'
        · rw [SlabSt.get?_of hs h0]; simp [hcv]; omega
      rw [e]
      clear h1 h2 h3 h4 h5 h6 h7 h8 h9 h10 hs hg q1 q2 q3 q4 hcv e hn1 hn2
      go_enter Try.func121, Try.ntmps121
      go_wp2
      go_ret
      exact ⟨by simp, rfl⟩

def wrongOf (σ : SlabSt) (n : Int) : Int := if (σ.get? n).isSome then 0 else 7
theorem wrong_ok {w : World} {a : Nat} {F : Nat → Prop} {σ : SlabSt} (h : At w a F σ) (hl : σ.slots.length ≤ 65536) (n : Int) :
    Calls Try.prog 103 #[.pointer (some ⟨a, 0, none⟩), .int .i64 n] w fun e w' => e = .returned (.int .i64 (wrongOf σ n)) ∧ w = w' := by
  have HT := Lib.hid (there_ok h hl n)
  have HN : Hid (Calls Try.prog 101 #[.pointer (some ⟨a, 0, none⟩)] w fun e w' => e = .returned (.bool false) ∧ w = w') := by
    obtain ⟨vT, vC, vF, ts, h1, _⟩ := h
    exact none_no (row_cell h1 rfl)
  clear h
  unfold wrongOf
  cases hq : (σ.get? n).isSome
  · rw [hq] at HT
    clear hq
    go_enter Try.func103, Try.ntmps103
    go_wp2_with fail
    refine HN.out.mono ?_; rintro e w1 ⟨rfl, rfl⟩
    go_wp2_with fail
    refine HT.out.mono ?_; rintro e w1 ⟨rfl, rfl⟩
    go_wp2
    go_ret
    exact ⟨rfl, rfl⟩
  · rw [hq] at HT
    clear hq
    go_enter Try.func103, Try.ntmps103
    go_wp2_with fail
    refine HN.out.mono ?_; rintro e w1 ⟨rfl, rfl⟩
    go_wp2_with fail
    refine HT.out.mono ?_; rintro e w1 ⟨rfl, rfl⟩
    go_wp2
    go_ret
    exact ⟨rfl, rfl⟩

theorem Room_ok {w : World} {a : Nat} {F : Nat → Prop} {σ : SlabSt} (h : At w a F σ) :
    Calls Try.prog 78 #[.pointer (some ⟨a, 0, none⟩)] w fun e w' => e = .returned (.int .i64 σ.room) ∧ w = w' := by
  obtain ⟨vT, vC, vF, ts, h1, _⟩ := h
  have d0 : w.cell? ⟨a, 0, none⟩ = some (.bool true) := row_cell h1 rfl
  have d1 : w.cell? ⟨a, 1, none⟩ = some (.int .i64 σ.room) := row_cell h1 rfl
  have HN := Lib.hid (none_no d0)
  clear h1
  go_enter Try.func78, Try.ntmps78
  go_wp2_with fail
  refine HN.out.mono ?_; rintro e w1 ⟨rfl, rfl⟩
  go_wp2
  go_ret
  exact ⟨rfl, rfl⟩

end Go.Proofs.Ytdgdpbmaalcedaa.Ref6
