/- The document's slab: Get and Count. -/
import Derived.Test.YtdgdpbmaalcedaaRef6
namespace Go.Proofs.Ytdgdpbmaalcedaa.Ref6
open Go Go.RowKit
set_option maxHeartbeats 400000
set_option linter.unusedVariables false

/-- Where a held slot's thing and count lie. -/
theorem held_mem {w : World} {a : Nat} {F : Nat → Prop} {σ : SlabSt} (h : At w a F σ) {m : Nat} {s : Value × Nat} (hs : σ.slots[m]? = some s) (h0 : s.2 ≠ 0) :
    ∃ gT cT gC cC, w.cell? ⟨a, 2, none⟩ = some (.slice (some ⟨gT, 0, none⟩) σ.slots.length cT) ∧ w.cell? ⟨a, 3, none⟩ = some (.slice (some ⟨gC, 0, none⟩) σ.slots.length cC) ∧
      w.cell? ⟨gT, m, none⟩ = some s.1 ∧ w.cell? ⟨gC, m, none⟩ = some (.int .i64 (s.2 : Nat)) := by
  have hm := (List.getElem?_eq_some_iff.1 hs).1
  obtain ⟨vT, vC, vF, ts, h1, h2, h3, h4, h5, h6, h7, h8, h9, h10⟩ := h
  obtain ⟨gT, cT, curT, rfl, hgT, _, _, _, qT⟩ := owns_block h2 (by omega)
  obtain ⟨gC, cC, curC, rfl, hgC, _, _, _, qC⟩ := owns_block h4 (by omega)
  exact ⟨gT, cT, gC, cC, row_cell h1 rfl, row_cell h1 rfl, row_cell hgT (take_get qT (h3 m s hs h0)), row_cell hgC (take_get qC (by simp [hs]))⟩

theorem wrap_small {m : Nat} (h : m ≤ 65536) : IntKind.i64.wrap (m : Int) = (m : Int) := by rw [IntKind.wrap]; simp [IntKind.signed, IntKind.bits]; omega

theorem Get_ok {w : World} {a : Nat} {F : Nat → Prop} {σ : SlabSt} (h : At w a F σ) (hl : σ.slots.length ≤ 65536) (n : Int) :
    Calls Try.prog 68 #[.pointer (some ⟨a, 0, none⟩), .int .i64 n] w fun e w' => e = .returned (.tuple #[((σ.get? n).map (·.1)).getD (.int .i64 0), .int .i64 (wrongOf σ n)]) ∧ w = w' := by
  have HW := Lib.hid (wrong_ok h hl n)
  cases hq : σ.get? n with
  | none =>
    have hw : wrongOf σ n = 7 := by simp [wrongOf, hq]
    rw [hw] at HW ⊢
    simp only [Option.map_none, Option.getD_none]
    clear h hw hq
    go_enter Try.func68, Try.ntmps68
    go_wp2_with fail
    refine HW.out.mono ?_; rintro e w1 ⟨rfl, rfl⟩
    go_wp2
    go_ret2
    exact ⟨rfl, rfl⟩
  | some s =>
    have hw : wrongOf σ n = 0 := by simp [wrongOf, hq]
    rw [hw] at HW ⊢
    simp only [Option.map_some, Option.getD_some]
    obtain ⟨m, rfl, hs, h0, hm⟩ := SlabSt.get?_some hq
    obtain ⟨gT, cT, gC, cC, d2, d3, d4, d5⟩ := held_mem h hs h0
    have hwi := wrap_small (m := m) (by omega)
    have hi1 : (m : Int) < (σ.slots.length : Int) := by omega
    have hi2 : (m : Int) ≤ 65535 := by omega
    have hi3 : m ≤ 65535 := by omega
    obtain ⟨v, c⟩ := s
    clear h hw hq hs h0
    go_enter Try.func68, Try.ntmps68
    go_wp2_with fail
    refine HW.out.mono ?_; rintro e w1 ⟨rfl, rfl⟩
    go_wp2
    go_ret2
    exact ⟨rfl, rfl⟩

theorem Count_ok {w : World} {a : Nat} {F : Nat → Prop} {σ : SlabSt} (h : At w a F σ) (hl : σ.slots.length ≤ 65536) (n : Int) :
    Calls Try.prog 70 #[.pointer (some ⟨a, 0, none⟩), .int .i64 n] w fun e w' => e = .returned (.int .i64 (σ.count n)) ∧ w = w' := by
  have HW := Lib.hid (wrong_ok h hl n)
  cases hq : σ.get? n with
  | none =>
    have hw : wrongOf σ n = 7 := by simp [wrongOf, hq]
    have hc : σ.count n = 0 := by simp [SlabSt.count, hq]
    rw [hw] at HW
    rw [hc]
    clear h hw hq hc
    go_enter Try.func70, Try.ntmps70
    go_wp2_with fail
    refine HW.out.mono ?_; rintro e w1 ⟨rfl, rfl⟩
    go_wp2
    go_ret
    exact ⟨rfl, rfl⟩
  | some s =>
    have hw : wrongOf σ n = 0 := by simp [wrongOf, hq]
    have hc : σ.count n = s.2 := by simp [SlabSt.count, hq]
    rw [hw] at HW
    rw [hc]
    obtain ⟨m, rfl, hs, h0, hm⟩ := SlabSt.get?_some hq
    obtain ⟨gT, cT, gC, cC, d2, d3, d4, d5⟩ := held_mem h hs h0
    have hwi := wrap_small (m := m) (by omega)
    have hi1 : (m : Int) < (σ.slots.length : Int) := by omega
    have hi2 : (m : Int) ≤ 65535 := by omega
    have hi3 : m ≤ 65535 := by omega
    obtain ⟨v, c⟩ := s
    clear h hw hq hs h0 hc
    go_enter Try.func70, Try.ntmps70
    go_wp2_with fail
    refine HW.out.mono ?_; rintro e w1 ⟨rfl, rfl⟩
    go_wp2
    go_ret
    exact ⟨rfl, rfl⟩

end Go.Proofs.Ytdgdpbmaalcedaa.Ref6
