/- The law AuditKnown returns true, whatever comes in. -/
import Derived.Test.YtmeglndnkdgkoaaGreatKnown12
import Derived.Test.YtmeglndnkdgkoaaGreatOpen
import Derived.Test.YtmeglndnkdgkoaaGreatRows
import Derived.ProofKit
import Derived.OpenShut
import Derived.ChangeOld
import Derived.Deep.Slices
namespace Go.Proofs.YtmeglndnkdgkoaaGreat.auditKnown
open Go.ChangeShapes Go.WideShapes Go.ChangeAt Go.RowKit Go.Deep Go.Proofs.YtmeglndnkdgkoaaGreat.Store
set_option linter.unusedVariables false

theorem main (W : World)  : Calls Tryz.prog 14 #[] W fun e w' => e = .returned (.bool true) ∧ Adds W w' := by
  exact Go.Proofs.YtmeglndnkdgkoaaGreat.Law12.known_law W
theorem own : ownKnob Tryz.prog.godebug = none := by kernel_rfl
theorem laidOut : laidOutB Tryz.prog = true := by kernel_rfl

set_option maxRecDepth 100000 in
theorem lifted (os : Os) (started : os.Started) (H : Type) (enc : TypeId × Value → H) :
    ReturnsInHanded {} Tryz.checked os 14 .any (Rows.auditKnownSpec.pre6 enc Tryz.prog Tryz.f14 Rows.auditKnownRow.domain false) (Rows.auditKnownSpec.post enc Tryz.prog Tryz.f14 false true false false) := by
  refine returnsInHanded_of_change (C := Tryz.checked) own started (by kernel_rfl) Tryz.func14
    (ChangeSpec.witness6 (enc := enc) (C := Tryz.checked) false ⟨#[], #[], []⟩ 8 (by kernel_rfl) (by kernel_rfl) (by kernel_rfl) (by kernel_rfl)) ?_
  intro W base args ds gs before hval0 hW hcnd _
  have hval : ∀ (j : Nat) t v, Tryz.f14.params[j]? = some t → args[j]? = some v → Value.okWide Tryz.prog W .any base t v := hval0
  have hW' := hW
  obtain ⟨p, q, hA0, hV, rfl, hfz, hnd⟩ := hW
  have hA : DataW.TrodAll enc Tryz.prog W 0 (fun _ => true) true Tryz.f14.params.toList args.toList ds p := hA0
  rw [Tryz.params14] at hA hval
  obtain ⟨rfl, rfl, rfl⟩ := trodAll_none hA
  obtain ⟨rfl, rfl⟩ := trodVars_none hV
  clear hA0 hval0
  refine (main W ).mono fun e W' ⟨he, ha⟩ => ?_
  have bel : Below W.heap.size W W' := ha.below (Nat.le_refl _) (fun _ h => h.elim)
  subst he
  exact ⟨_, rfl, _, _, _, [], _, [], hW', trodAll_mk1 (shut_bool Tryz.underlying4 _), rfl, rfl, bel.frame _, fun h => by cases h⟩

set_option maxRecDepth 100000 in
theorem k_inPlace : (Rows.auditKnownRow.inPlace == Tryz.prog.inPlace 14) = true := by kernel_rfl
set_option maxRecDepth 100000 in
theorem k_unfollowed : (Rows.auditKnownRow.unfollowed == Tryz.prog.unfollowed 14) = true := by kernel_rfl
set_option maxRecDepth 100000 in
theorem k_recurses : (Rows.auditKnownRow.recurses == Tryz.prog.recurses 14) = true := by kernel_rfl
set_option maxRecDepth 100000 in
theorem k_named : (Rows.auditKnownRow.named == Tryz.prog.varsNamed 14) = true := by kernel_rfl
set_option maxRecDepth 100000 in
theorem k_rowed : mapsRowed Tryz.prog = true := by kernel_rfl
set_option maxRecDepth 100000 in
theorem closed : joinedFacts Tryz.prog 14 Tryz.f14 Rows.auditKnownSpec Rows.auditKnownRow = true := by
  unfold joinedFacts
  rw [k_inPlace, k_unfollowed, k_recurses, k_named, k_rowed, laidOut]
  kernel_rfl
theorem over : Rows.auditKnownRow.holds Tryz.pinned (OpenSpec.ofChange Rows.auditKnownSpec) :=
  OpenClaim.holds_of_wide 14 Tryz.f14 rfl rfl rfl rfl rfl rfl rfl ⟨rfl, rfl, rfl, rfl, rfl⟩ rfl rfl rfl rfl rfl (by kernel_rfl) Tryz.func14 closed
    (of_decide_eq_true (by kernel_rfl)) (by unfold Func.isWrapper; first | (rw [if_pos (by decide +kernel)]; kernel_rfl) | (rw [if_neg (by decide +kernel)]; exact ⟨rfl, rfl⟩))
    (fun os started H enc _ => lifted os started H enc)

theorem proved : Rows.AuditKnownSaid := over
#print axioms proved

end Go.Proofs.YtmeglndnkdgkoaaGreat.auditKnown
