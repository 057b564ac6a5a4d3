/- For all pairs and all orders the law PutTurns returns true. -/
import Derived.Test.YtpeebeebakjpdaaTurns9
import Derived.Test.YtpeebeebakjpdaaRows
import Derived.ProofKit
import Derived.OpenShut
import Derived.ChangeOld
import Derived.Deep.Slices
namespace Go.Proofs.Ytpeebeebakjpdaa.Law9
open Go Go.RowKit Go.Deep Go.ChangeShapes Go.WideShapes Go.ChangeAt
set_option linter.unusedVariables false
set_option maxRecDepth 100000 in
/-- Numbers that came in, opened. -/
theorem opened_ints {H : Type} {enc : TypeId × Value → H} {W : World} {base : Nat} {v : Value} {d : DataW H} {p : List MemPlace} (hv : Value.okWide Try.prog W .any base 23 v)
    (h : DataW.Trod enc Try.prog W 0 (fun _ => true) true 23 v d p) : ∃ ao n cap, v = .slice ao n cap ∧ IntsAt W ao n := by
  obtain ⟨ao, len, cap, rfl⟩ := okWide_slice Try.underlying23 hv
  obtain ⟨m, hm⟩ := h
  rcases open_slice1 Try.underlying23 cells_int hm with ⟨h0, _⟩ | ⟨a, l, c, mm, n', V, D, Pl, hcs, hb, hl, hc, hmm, hx, hV⟩
  · simp only [Value.cells, List.cons.injEq, Value.slice.injEq, and_true] at h0
    obtain ⟨rfl, rfl, rfl⟩ := h0
    exact ⟨_, _, _, rfl, fun i hi => absurd hi (Nat.not_lt_zero _)⟩
  · simp only [Value.cells, List.cons.injEq, Value.slice.injEq, and_true] at hcs
    obtain ⟨rfl, rfl, rfl⟩ := hcs
    simp only [if_true] at hmm
    subst hmm
    refine ⟨_, _, _, rfl, fun i hi => ?_⟩
    obtain ⟨h1, h2⟩ := hV i (by omega)
    obtain ⟨x, e, _, hw⟩ := DataW.trod_int Try.underlying3 h2
    injection e with e _
    rw [e] at h1
    obtain ⟨g, off, spot⟩ := a
    cases spot with
    | some s =>
      have k0 := (hV 0 (by omega)).1
      rw [cell_spot _ _ rfl] at k0
      cases k0
    | none =>
      rw [add_plain] at h1
      exact ⟨g, off, x, rfl, h1, hw, cell_block h1⟩
end Go.Proofs.Ytpeebeebakjpdaa.Law9
namespace Go.Proofs.Ytpeebeebakjpdaa.putTurns
open Go.ChangeShapes Go.WideShapes Go.ChangeAt Go.RowKit Go.Deep
set_option linter.unusedVariables false

theorem walk (v : Value) {W0 : World} (hv : ∃ ao l cap, v = .slice ao (List.length l) cap ∧ Law9.PairsAt W0 ao l) (u : Value) (hu : ∃ ao n cap, u = .slice ao n cap ∧ Law9.IntsAt W0 ao n) (W : World) (hW : W = W0) :
    Calls Try.prog 3 #[v, u] W fun e w' => e = .returned (.bool true) ∧ Below W.heap.size W w' := by
  subst hW
  obtain ⟨ao, l, cap, rfl, ha⟩ := hv
  obtain ⟨bo, n, c, rfl, hb⟩ := hu
  by_cases hl : Law9.largeB l = true
  · exact (Law9.turns_off ao l cap _ W ha hl).mono fun _ _ ⟨he, h⟩ => ⟨he, h.below (Nat.le_refl _) (fun _ h => h.elim)⟩
  · exact (Law9.turns_law ao l cap bo n c W ha hb (by simpa using hl)).mono fun _ _ ⟨he, h⟩ => ⟨he, h.below (Nat.le_refl _) (fun _ h => h.elim)⟩

theorem own : ownKnob Try.prog.godebug = none := by kernel_rfl
theorem laidOut : laidOutB Try.prog = true := by kernel_rfl

set_option maxRecDepth 100000 in
theorem lifted (os : Os) (started : os.Started) (H : Type) (enc : TypeId × Value → H) :
    ReturnsInHanded {} Try.checked os 3 .any (Rows.putTurnsSpec.pre6 enc Try.prog Try.f3 Rows.putTurnsRow.domain false) (Rows.putTurnsSpec.post enc Try.prog Try.f3 false true false false) := by
  refine returnsInHanded_of_change (C := Try.checked) own started (by kernel_rfl) Try.func3
    (ChangeSpec.witness6 (enc := enc) (C := Try.checked) false ⟨#[], #[.slice none 0 0, .slice none 0 0], []⟩ 8 (by kernel_rfl) (by kernel_rfl) (by kernel_rfl) (by kernel_rfl)) ?_
  intro W base args ds gs before hval0 hW hcnd _
  have hval : ∀ (j : Nat) t v, Try.f3.params[j]? = some t → args[j]? = some v → Value.okWide Try.prog W .any base t v := hval0
  have hW' := hW
  obtain ⟨p, q, hA0, hV, rfl, hfz, hnd⟩ := hW
  have hA : DataW.TrodAll enc Try.prog W 0 (fun _ => true) true Try.f3.params.toList args.toList ds p := hA0
  rw [Try.params3] at hA hval
  obtain ⟨v0, vs0, d0, ds0, p0, q0, hargs, rfl, rfl, h0, r0⟩ := trodAll_cons hA
  obtain ⟨v1, vs1, d1, ds1, p1, q1, rfl, rfl, rfl, h1, r1⟩ := trodAll_cons r0
  obtain ⟨rfl, rfl, rfl⟩ := trodAll_nil r1
  obtain rfl : args = #[v0, v1] := by cases args; simp_all
  obtain ⟨rfl, rfl⟩ := trodVars_none hV
  have k0 := h0
  have lt0 : ∀ x ∈ p0, x.block < W.heap.size := by obtain ⟨m, hm⟩ := k0; exact DataW.trod_lt m _ _ _ hm
  have k1 := h1
  have lt1 : ∀ x ∈ p1, x.block < W.heap.size := by obtain ⟨m, hm⟩ := k1; exact DataW.trod_lt m _ _ _ hm
  clear hA0 hval0
  refine (walk v0 (Law9.opened_pairs (hval 0 22 v0 rfl rfl) h0) v1 (Law9.opened_ints (hval 1 23 v1 rfl rfl) h1) W rfl).mono fun e W' ⟨he, bel⟩ => ?_
  subst he
  exact ⟨_, rfl, _, _, _, [], _, [], hW', trodAll_mk1 (shut_bool Try.underlying4 _), (trodAll_cons_mk (Below.trod laidOut (by kernel_rfl) (of_decide_eq_true (by kernel_rfl)) k0 bel lt0) (trodAll_cons_mk (Below.trod laidOut (by kernel_rfl) (of_decide_eq_true (by kernel_rfl)) k1 bel lt1) trodAll_mk0)), rfl, bel.frame _, fun h => by cases h⟩

theorem over : Rows.putTurnsRow.holds Try.pinned (OpenSpec.ofChange Rows.putTurnsSpec) :=
  OpenClaim.holds_of_wide 3 Try.f3 rfl rfl rfl rfl rfl rfl rfl ⟨rfl, rfl, rfl, rfl, rfl⟩ rfl rfl rfl rfl rfl (by kernel_rfl) Try.func3 (by kernel_rfl)
    (of_decide_eq_true (by kernel_rfl)) (by unfold Func.isWrapper; first | (rw [if_pos (by decide +kernel)]; kernel_rfl) | (rw [if_neg (by decide +kernel)]; exact ⟨rfl, rfl⟩))
    (fun os started H enc _ => lifted os started H enc)

theorem proved : Rows.PutTurnsSaid := over
#print axioms proved

end Go.Proofs.Ytpeebeebakjpdaa.putTurns
