/- A row of ints that came in, opened. -/
import Derived.Test.YtmeglndnkdgkoaaGreatAud1
import Derived.Test.YtmeglndnkdgkoaaGreatPutI
namespace Go.Proofs.YtmeglndnkdgkoaaGreat
open Go Go.RowKit Go.Proofs.YtmeglndnkdgkoaaGreat.ShaW Go.Proofs.YtmeglndnkdgkoaaGreat.Path Go.Proofs.YtmeglndnkdgkoaaGreat.Store Go.Proofs.YtmeglndnkdgkoaaGreat.Law9 Go.Deep Go.ChangeShapes Go.WideShapes Go.ChangeAt
set_option maxHeartbeats 1600000
set_option linter.unusedVariables false

def InInts (W : World) (v : Value) : Prop := ∃ ao l cap, v = .slice ao (List.length l) cap ∧ IntsAt W ao l ∧ (∀ x ∈ l, (Lit.int .i64 x).wf = true) ∧ l.length ≤ cap ∧ cap ≤ maxLen
section
variable {H : Type} {enc : TypeId × Value → H} {W : World} {base : Nat} {v : Value} {d : DataW H} {p : List MemPlace}
set_option maxRecDepth 100000 in
theorem in_ints (hv : Value.okWide Tryz.prog W .any base 43 v)
    (h : DataW.Trod enc Tryz.prog W 0 (fun _ => true) true 43 v d p) : InInts W v := by
  obtain ⟨ao, len, cap, rfl⟩ := okWide_slice Tryz.underlying43 hv
  obtain ⟨m, hm⟩ := h
  rcases open_ints Tryz.underlying43 Tryz.underlying3 (by kernel_rfl) hm with ⟨h0, _⟩ | ⟨a, l, c, zs, hcs, hb, hl, hc, hzl, hx, hcell, hwf⟩
  · simp only [Value.cells, List.cons.injEq, Value.slice.injEq, and_true] at h0
    obtain ⟨rfl, rfl, rfl⟩ := h0
    exact ⟨_, [], _, rfl, IntsAt.nil _ _, (fun x hx => by cases hx), Nat.le_refl _, by unfold maxLen; omega⟩
  · simp only [Value.cells, List.cons.injEq, Value.slice.injEq, and_true] at hcs
    obtain ⟨rfl, rfl, rfl⟩ := hcs
    simp only [if_true] at hzl
    refine ⟨some a, zs.take len, cap, by simp [hzl, Nat.min_eq_left hl], fun i x hi => ?_, fun x hx => hwf x (List.mem_of_mem_take hx), by simp [hzl]; omega, hc⟩
    have hil : i < len := by have := (List.getElem?_eq_some_iff.1 hi).1; simp at this; omega
    rw [List.getElem?_take_of_lt hil] at hi
    have hlt : i < zs.length := (List.getElem?_eq_some_iff.1 hi).1
    obtain ⟨g, off, spot⟩ := a
    cases spot with
    | none =>
      refine ⟨g, off, rfl, ?_⟩
      have h1 := hcell i hlt
      rw [add_plain] at h1
      rw [h1]
      simp [List.getD, hi]
    | some s =>
      exfalso
      have h1 := hcell 0 (by omega)
      rw [cell_spot _ _ (by simp [Addr.add])] at h1
      cases h1
end
end Go.Proofs.YtmeglndnkdgkoaaGreat
