/- SlabKnown: the document's examples of a slab: the law's call answers true. -/
import Derived.Test.YtdgdpbmaalcedaaSlabLS
import Derived.Test.YtdgdpbmaalcedaaSlabI
namespace Go.Proofs.Ytdgdpbmaalcedaa
open Go Go.RowKit
set_option maxHeartbeats 400000
set_option linter.unusedVariables false

def sv (b : UInt8) : Value := .string ⟨#[b]⟩
theorem sv_ok (b : UInt8) : SlabS.OkV (sv b) := ⟨rfl, rfl⟩

set_option maxRecDepth 100000 in
theorem awake6 (w : World) : Calls Try.prog 16 #[] w fun e w' => e = .returned (.bool true) ∧ SlabS.Adds w w' := by
  go_enter Try.func16, Try.ntmps16
  go_wp2_with fail
  refine (SlabS.New_live 2 w _ (Ch.refl _ _) (by omega) (by omega)).mono ?_; rintro e w1 ⟨rfl, h1, -⟩
  go_wp2_with fail
  refine (show Calls _ _ _ _ (fun e w' => e = .returned (.tuple #[.int .i64 1, .int .i64 0]) ∧ SlabS.Live w w' _ ⟨2, [(sv 97, 1)], []⟩) from SlabS.Take_live h1 (sv 97) (sv_ok _)).mono ?_; rintro e w2 ⟨rfl, h2⟩; clear h1
  go_wp2_with fail
  refine (show Calls _ _ _ _ (fun e w' => e = .returned (.tuple #[.int .i64 2, .int .i64 0]) ∧ SlabS.Live w w' _ ⟨2, [(sv 97, 1), (sv 98, 1)], []⟩) from SlabS.Take_live h2 (sv 98) (sv_ok _)).mono ?_; rintro e w3 ⟨rfl, h3⟩; clear h2
  go_wp2_with fail
  refine (show Calls _ _ _ _ (fun e w' => e = .returned (.tuple #[.int .i64 0, .int .i64 9]) ∧ SlabS.Live w w' _ ⟨2, [(sv 97, 1), (sv 98, 1)], []⟩) from SlabS.Take_live h3 (sv 99) (sv_ok _)).mono ?_; rintro e w4 ⟨rfl, h4⟩; clear h3
  go_wp2_with fail
  refine (show Calls _ _ _ _ (fun e w' => e = .returned (.int .i64 0) ∧ SlabS.Live w w' _ ⟨2, [(sv 97, 2), (sv 98, 1)], []⟩) from SlabS.Hold_live h4 1).mono ?_; rintro e w5 ⟨rfl, h5⟩; clear h4
  go_wp2_with fail
  refine (show Calls _ _ _ _ (fun e w' => e = .returned (.tuple #[.bool false, .int .i64 0]) ∧ SlabS.Live w w' _ ⟨2, [(sv 97, 1), (sv 98, 1)], []⟩) from SlabS.Drop_live h5 1).mono ?_; rintro e w6 ⟨rfl, h6⟩; clear h5
  go_wp2_with fail
  refine (show Calls _ _ _ _ (fun e w' => e = .returned (.tuple #[.bool true, .int .i64 0]) ∧ SlabS.Live w w' _ ⟨2, [(SlabS.zero, 0), (sv 98, 1)], [1]⟩) from SlabS.Drop_live h6 1).mono ?_; rintro e w7 ⟨rfl, h7⟩; clear h6
  go_wp2_with fail
  refine (show Calls _ _ _ _ (fun e w' => e = .returned (.tuple #[.bool false, .int .i64 7]) ∧ SlabS.Live w w' _ ⟨2, [(SlabS.zero, 0), (sv 98, 1)], [1]⟩) from SlabS.Drop_live h7 1).mono ?_; rintro e w8 ⟨rfl, h8⟩; clear h7
  go_wp2_with fail
  refine (show Calls _ _ _ _ (fun e w' => e = .returned (.tuple #[.int .i64 1, .int .i64 0]) ∧ SlabS.Live w w' _ ⟨2, [(sv 100, 1), (sv 98, 1)], []⟩) from SlabS.Take_live h8 (sv 100) (sv_ok _)).mono ?_; rintro e w9 ⟨rfl, h9⟩; clear h8
  go_wp2_with fail
  refine (show Calls _ _ _ _ (fun e w' => e = .returned (.tuple #[sv 100, .int .i64 0]) ∧ SlabS.Live w w' _ ⟨2, [(sv 100, 1), (sv 98, 1)], []⟩) from SlabS.Get_live h9 1).mono ?_; rintro e w10 ⟨rfl, h10⟩; clear h9
  unfold sv at *
  go_wp2_with fail
  refine (show Calls _ _ _ _ (fun e w' => e = .returned (.int .i64 2) ∧ _ = w') from SlabS.Len_live h10).mono ?_; rintro e w11 ⟨rfl, rfl⟩
  go_wp2
  go_ret
  exact ⟨rfl, h10.adds⟩

end Go.Proofs.Ytdgdpbmaalcedaa
