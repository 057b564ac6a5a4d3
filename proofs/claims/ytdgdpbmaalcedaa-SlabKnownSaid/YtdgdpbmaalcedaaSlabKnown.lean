/- For every input (there is none) the law SlabKnown returns true. -/
import Derived.Test.YtdgdpbmaalcedaaKnown6
import Derived.Test.YtdgdpbmaalcedaaRows
import Derived.ProofKit
import Derived.OpenShut
import Derived.ChangeOld
namespace Go.Proofs.Ytdgdpbmaalcedaa.slabKnown
open Go.ChangeShapes Go.WideShapes Go.ChangeAt Go.RowKit
set_option linter.unusedVariables false

set_option maxHeartbeats 800000 in
set_option maxRecDepth 100000 in
theorem known (w : World) : Calls Try.prog 3 #[] w fun e w' => e = .returned (.bool true) ∧ SlabS.Adds w w' := by
  go_enter Try.func3, Try.ntmps3
  go_wp2_with fail
  refine (SlabI.New_bad 0 _ (by omega)).mono ?_; rintro e w1 ⟨rfl, rfl⟩
  go_wp2_with fail
  refine (SlabI.New_bad 65537 _ (by omega)).mono ?_; rintro e w1 ⟨rfl, rfl⟩
  go_wp2_with fail
  refine (SlabI.New_ok 65536 w (by omega) (by omega)).mono ?_; rintro e w1 ⟨rfl, hb, a1, -⟩
  go_wp2_with fail
  refine (SlabS.New_live 2 w _ a1 (by omega) (by omega)).mono ?_; rintro e w2 ⟨rfl, h1, a2⟩
  have hb2 : SlabI.At SlabI.OkV w2 w.heap.size (fun k => k = w.heap.size) ⟨65536, [], []⟩ := hb.keep a2 (fun _ _ h => h)
  clear hb a2 a1
  have HB := Lib.hid hb2
  clear hb2
  go_wp2_with fail
  refine (show Calls _ _ _ _ (fun e w' => e = .returned (.int .i64 65536) ∧ _ = w') from SlabI.Room_ok HB.out).mono ?_; rintro e w3 ⟨rfl, rfl⟩
  clear HB
  go_wp2_with fail
  refine (show Calls _ _ _ _ (fun e w' => e = .returned (.tuple #[.int .i64 1, .int .i64 0]) ∧ SlabS.Live w w' _ ⟨2, [(sv 97, 1)], []⟩) from SlabS.Take_live h1 (sv 97) (sv_ok _)).mono ?_; rintro e w4 ⟨rfl, h2⟩; clear h1
  go_wp2_with fail
  refine (show Calls _ _ _ _ (fun e w' => e = .returned (.tuple #[.int .i64 2, .int .i64 0]) ∧ SlabS.Live w w' _ ⟨2, [(sv 97, 1), (sv 98, 1)], []⟩) from SlabS.Take_live h2 (sv 98) (sv_ok _)).mono ?_; rintro e w5 ⟨rfl, h3⟩; clear h2
  go_wp2_with fail
  refine (show Calls _ _ _ _ (fun e w' => e = .returned (.tuple #[.bool true, .int .i64 0]) ∧ SlabS.Live w w' _ ⟨2, [(sv 97, 1), (SlabS.zero, 0)], [2]⟩) from SlabS.Drop_live h3 2).mono ?_; rintro e w6 ⟨rfl, h4⟩; clear h3
  go_wp2_with fail
  refine (show Calls _ _ _ _ (fun e w' => e = .returned (.tuple #[.bool true, .int .i64 0]) ∧ SlabS.Live w w' _ ⟨2, [(SlabS.zero, 0), (SlabS.zero, 0)], [2, 1]⟩) from SlabS.Drop_live h4 1).mono ?_; rintro e w7 ⟨rfl, h5⟩; clear h4
  go_wp2_with fail
  refine (show Calls _ _ _ _ (fun e w' => e = .returned (.tuple #[.int .i64 1, .int .i64 0]) ∧ SlabS.Live w w' _ ⟨2, [(sv 101, 1), (SlabS.zero, 0)], [2]⟩) from SlabS.Take_live h5 (sv 101) (sv_ok _)).mono ?_; rintro e w8 ⟨rfl, h6⟩; clear h5
  go_wp2_with fail
  refine (show Calls _ _ _ _ (fun e w' => e = .returned (.tuple #[.int .i64 2, .int .i64 0]) ∧ SlabS.Live w w' _ ⟨2, [(sv 101, 1), (sv 102, 1)], []⟩) from SlabS.Take_live h6 (sv 102) (sv_ok _)).mono ?_; rintro e w9 ⟨rfl, h7⟩; clear h6
  go_wp2_with fail
  refine (awake6 w9).mono ?_; rintro e w10 ⟨rfl, h8⟩
  go_wp2
  go_ret
  exact ⟨rfl, h7.adds.trans h8 (fun _ h => h.elim)⟩

theorem walk (w : World) : Calls Try.prog 3 #[] w fun e w' => e = .returned (.bool true) ∧ Below w.heap.size w w' :=
  (known w).mono fun _ _ ⟨he, h⟩ => ⟨he, h.below (Nat.le_refl _) (fun _ h => h.elim)⟩

theorem own : ownKnob Try.prog.godebug = none := by kernel_rfl
theorem laidOut : laidOutB Try.prog = true := by kernel_rfl

set_option maxRecDepth 100000 in
theorem lifted (os : Os) (started : os.Started) (H : Type) (enc : TypeId × Value → H) :
    ReturnsInHanded {} Try.checked os 3 .any (Rows.slabKnownSpec.pre6 enc Try.prog Try.f3 Rows.slabKnownRow.domain false) (Rows.slabKnownSpec.post enc Try.prog Try.f3 false true false false) := by
  refine returnsInHanded_of_change (C := Try.checked) own started (by kernel_rfl) Try.func3
    (ChangeSpec.witness6 (enc := enc) (C := Try.checked) false ⟨#[], #[], []⟩ 8 (by kernel_rfl) (by kernel_rfl) (by kernel_rfl) (by kernel_rfl)) ?_
  intro W base args ds gs before hval0 hW hcnd _
  have hval : ∀ (j : Nat) t v, Try.f3.params[j]? = some t → args[j]? = some v → Value.okWide Try.prog W .any base t v := hval0
  have hW' := hW
  obtain ⟨p, q, hA0, hV, rfl, hfz, hnd⟩ := hW
  have hA : DataW.TrodAll enc Try.prog W 0 (fun _ => true) true Try.f3.params.toList args.toList ds p := hA0
  rw [Try.params3] at hA hval
  obtain ⟨rfl, rfl, rfl⟩ := trodAll_none hA
  obtain ⟨rfl, rfl⟩ := trodVars_none hV
  clear hA0 hval0
  refine (walk W).mono fun e W' ⟨he, bel⟩ => ?_
  subst he
  exact ⟨_, rfl, _, _, _, [], _, [], hW', trodAll_mk1 (shut_bool Try.underlying4 _), rfl, rfl, bel.frame _, fun h => by cases h⟩

theorem over : Rows.slabKnownRow.holds Try.pinned (OpenSpec.ofChange Rows.slabKnownSpec) :=
  OpenClaim.holds_of_wide 3 Try.f3 rfl rfl rfl rfl rfl rfl rfl ⟨rfl, rfl, rfl, rfl, rfl⟩ rfl rfl rfl rfl rfl (by kernel_rfl) Try.func3 (by kernel_rfl)
    (of_decide_eq_true (by kernel_rfl)) (by unfold Func.isWrapper; first | (rw [if_pos (by decide +kernel)]; kernel_rfl) | (rw [if_neg (by decide +kernel)]; exact ⟨rfl, rfl⟩))
    (fun os started H enc _ => lifted os started H enc)

theorem proved : Rows.SlabKnownSaid := over
#print axioms proved

end Go.Proofs.Ytdgdpbmaalcedaa.slabKnown
