/- Layer 7's statements: the keys they use; what the document's examples say. -/
import Derived.Test.YtfllneenonhonaaStoreO
namespace Go.Proofs.Ytfllneenonhonaa.Law7
open Go Go.RowKit Go.Proofs.Ytfllneenonhonaa Go.Proofs.Ytfllneenonhonaa.ShaW Go.Proofs.Ytfllneenonhonaa.Path Go.Proofs.Ytfllneenonhonaa.Store
set_option maxHeartbeats 1600000
set_option linter.unusedVariables false

def keyV (bb : Int) : Array Value := (Value.int .u8 bb :: List.replicate 31 (Value.int .u8 0)).toArray
theorem keyV_one (bb : Int) : ∀ v ∈ (keyV bb).toList, v.oneCell' = true := fun v hv => by
  simp [keyV] at hv
  rcases hv with rfl | rfl <;> rfl
set_option maxRecDepth 100000 in
theorem key_of (bb : Int) (w : World) :
    Calls Try.prog 59 #[.int .u8 bb] w fun e w' => e = .returned (.agg (keyV bb)) ∧ Adds w w' := by
  obtain ⟨Z, hZ⟩ : ∃ Z, Z = brow (List.replicate 32 0) := ⟨_, rfl⟩
  have hz := zeroP
  rw [← hZ] at hz
  have hZs : Z.size = 32 := by rw [hZ]; rfl
  have HZ := Lib.hid (And.intro hz hZs)
  clear hZ hz hZs
  go_enter Try.func59, Try.ntmps59
  go_wp2_with (first
    | ((with_reducible show wpList _ _ _ (⟨_, .alloc 23, _, _, _, _⟩ :: _) _ _); refine wpList_alloc_is rfl 23 rfl (.agg Z) HZ.out.1 ?_; dsimp only [Value.cells]; try simp only [World.size_alloc])
    | ((with_reducible show wpList _ _ _ (⟨_, .store 23 (.tmp 2) _, _, _, _, _⟩ :: _) _ _); go_must (refine wpList_store_part rfl 23 _ _ rfl w.heap.size 0 (keyV bb) rfl rfl (heap_alloc_new _ _) (by rw [sizeP]; rfl) (by rw [HZ.out.2]; exact Nat.le_refl _) (keyV_one bb) (keyV bb) (by rw [splice_all _ _ (by rw [Array.length_toList, Array.length_toList, HZ.out.2]; rfl)]) ?_)))
  refine bodyPost_ret_cell1 (p := 2) (cs := keyV bb) rfl rfl (row_setRow_same (heap_alloc_new _ _) _) Try.underlying23 rfl (by rw [sizeP]; rfl) rfl ?_
  exact ⟨rfl, ((Ch.refl _ _).alloc _).setRow (.inr (Nat.le_refl _)) _⟩
theorem key_0 (w : World) : Calls Try.prog 59 #[.int .u8 0] w fun e w' => e = .returned (.agg (brow (keyL 0))) ∧ Adds w w' := key_of 0 w
theorem key_1 (w : World) : Calls Try.prog 59 #[.int .u8 1] w fun e w' => e = .returned (.agg (brow (keyL 1))) ∧ Adds w w' := key_of 1 w
theorem key_64 (w : World) : Calls Try.prog 59 #[.int .u8 64] w fun e w' => e = .returned (.agg (brow (keyL 64))) ∧ Adds w w' := key_of 64 w
theorem key_128 (w : World) : Calls Try.prog 59 #[.int .u8 128] w fun e w' => e = .returned (.agg (brow (keyL 128))) ∧ Adds w w' := key_of 128 w

/-- A leaf without a value, of a key with such a first byte. -/
noncomputable def leafN (b : UInt8) (v : Value) : Nd := Nd.leaf (Tag.leafD (keyL b) (Tag.valueD [])) (keyL b) (Tag.valueD []) [] v
theorem leafS_nil (σ : SlabSt Nd) (b : UInt8) (v : Value) : leafS σ (keyL b) [] v = σ.take (leafN b v) := by
  unfold leafS
  rw [if_neg (by simp)]
  rfl
/-- The three first states. -/
noncomputable def st1 (v : Value) : SlabSt Nd := ⟨4, [(leafN 0 v, 1)], []⟩
noncomputable def st2 (v u : Value) : SlabSt Nd := ⟨4, [(leafN 0 v, 1), (leafN 128 u, 1)], []⟩
noncomputable def top (v u : Value) : Nd := Nd.inner (Tag.innerD (leafN 0 v).digest (leafN 128 u).digest) (first (keyL 0) 0) 0 1 2 2
noncomputable def st3 (v u : Value) : SlabSt Nd := ⟨4, [({ leafN 0 v with held := 0 }, 1), ({ leafN 128 u with held := 0 }, 1), (top v u, 1)], []⟩
theorem step1 (v : Value) : leafS ⟨4, [], []⟩ (keyL 0) [] v = (1, 0, st1 v) := by rw [leafS_nil]; rfl
theorem step2 (v u : Value) : leafS (st1 v) (keyL 128) [] u = (2, 0, st2 v u) := by rw [leafS_nil]; rfl
theorem bits : bit (keyL 0) 0 = 0 ∧ bit (keyL 128) 0 = 1 := by decide
theorem step3 (v u : Value) : innerS (st2 v u) 0 1 2 = (3, 0, st3 v u) := by
  have h1 : nd (st2 v u) 1 = leafN 0 v := rfl
  have h2 : nd (st2 v u) 2 = leafN 128 u := rfl
  have hf : fitsB 0 1 2 (nd (st2 v u) 1) (nd (st2 v u) 2) = true := by
    rw [h1, h2]
    have e1 : fitB (leafN 0 v) 0 0 = true := by
      show (if unfit (leafN 0 v) 0 = true then false else decide (bit (keyL 0) 0 = 0)) = true
      rw [bits.1]; rfl
    have e2 : fitB (leafN 128 u) 0 1 = true := by
      show (if unfit (leafN 128 u) 0 = true then false else decide (bit (keyL 128) 0 = 1)) = true
      rw [bits.2]; rfl
    unfold fitsB
    rw [if_neg (by decide), if_neg (by decide), e1, e2]
    simp
  have hs : wrap64 ((nd (st2 v u) 1).size + (nd (st2 v u) 2).size) = 2 := by rw [h1, h2]; show wrap64 (1 + 1) = 2; unfold wrap64; omega
  have hn : innerNd (st2 v u) 0 1 2 = top v u := by unfold innerNd; rw [hs]; rfl
  unfold innerS
  rw [if_neg (by decide), if_neg (by
    intro h
    rcases h with h | h
    · rcases h.2 with h | h
      · exact absurd h (by show ¬ (true = false); simp)
      · exact absurd h (by show ¬ ((1 : Int) = 0); decide)
    · rcases h.2 with h | h
      · exact absurd h (by show ¬ (true = false); simp)
      · exact absurd h (by show ¬ ((1 : Int) = 0); decide)), if_neg (by rw [hf]; simp), hn]
  have w0 : wrap64 (1 + -1) = 0 := by unfold wrap64; omega
  have ht : (st2 v u).take (top v u) = (3, 0, ⟨4, [(leafN 0 v, 1), (leafN 128 u, 1), (top v u, 1)], []⟩) := rfl
  have b1 : bump ⟨4, [(leafN 0 v, 1), (leafN 128 u, 1), (top v u, 1)], []⟩ 1 (-1) = ⟨4, [({ leafN 0 v with held := 0 }, 1), (leafN 128 u, 1), (top v u, 1)], []⟩ := by
    show (SlabSt.set _ 1 (withHeld (leafN 0 v) (wrap64 (1 + -1)))).2 = _
    rw [w0]; rfl
  have b2 : bump ⟨4, [({ leafN 0 v with held := 0 }, 1), (leafN 128 u, 1), (top v u, 1)], []⟩ 2 (-1) = st3 v u := by
    show (SlabSt.set _ 2 (withHeld (leafN 128 u) (wrap64 (1 + -1)))).2 = _
    rw [w0]; rfl
  rw [ht]
  simp only [ne_eq, not_true_eq_false, if_false]
  rw [b1, b2]

set_option maxRecDepth 100000 in
theorem awake_ok (w : World) : Calls Try.prog 22 #[] w fun e w' => e = .returned (.bool true) ∧ Adds w w' := by
  go_enter Try.func22, Try.ntmps22
  go_wp2_with fail
  refine (New_own 4 w (by decide) (by decide)).mono ?_; rintro e w1 ⟨s, rfl, h1⟩
  have H1 := Lib.hid h1
  clear h1
  go_wp2_with fail
  refine (key_0 _).mono ?_; rintro e w2 ⟨rfl, hc2⟩
  have h2 := H1.out.adds hc2
  obtain ⟨K0, hK0⟩ : ∃ K, K = brow (keyL 0) := ⟨_, rfl⟩
  have hl := h2.leaf (keyL 0) rfl (Bytes.nil w2) (fun _ k hk => by cases hk)
  rw [← hK0] at hl
  rw [← hK0]
  have HL := Lib.hid hl
  clear hc2 h2 hl hK0
  go_wp2_with fail
  refine HL.out.mono ?_; rintro e w3 ⟨v, rfl, h3⟩
  rw [step1] at h3 ⊢
  have H3 := Lib.hid h3
  clear h3
  go_wp2_with fail
  refine (key_128 _).mono ?_; rintro e w4 ⟨rfl, hc4⟩
  have h4 := H3.out.adds hc4
  obtain ⟨K1, hK1⟩ : ∃ K, K = brow (keyL 128) := ⟨_, rfl⟩
  have hl := h4.leaf (keyL 128) rfl (Bytes.nil w4) (fun _ k hk => by cases hk)
  rw [← hK1] at hl
  rw [← hK1]
  have HL4 := Lib.hid hl
  clear hc4 h4 hl hK1
  go_wp2_with fail
  refine HL4.out.mono ?_; rintro e w5 ⟨u, rfl, h5⟩
  rw [step2] at h5 ⊢
  have H5 := Lib.hid h5
  clear h5
  go_wp2_with fail
  refine (H5.out.inner 0 1 2).mono ?_; rintro e w6 ⟨rfl, h6⟩
  rw [step3] at h6 ⊢
  have H6 := Lib.hid h6
  clear h6
  go_wp2_with fail
  refine (H6.out.countC 1).mono ?_; rintro e w7 ⟨rfl, rfl⟩
  rw [show (st3 v u).count 1 = 1 from rfl]
  go_wp2_with fail
  refine (H6.out.heldC 1).mono ?_; rintro e w8 ⟨rfl, hc8⟩
  have H8 := Lib.hid (H6.out.adds hc8)
  clear hc8
  rw [show (nd (st3 v u) 1).held = 0 from rfl]
  go_wp2_with fail
  refine (H8.out.heldC 3).mono ?_; rintro e w9 ⟨rfl, hc9⟩
  have H9 := Lib.hid (H8.out.adds hc9)
  clear hc9
  rw [show (nd (st3 v u) 3).held = 1 from rfl]
  go_wp2_with fail
  refine (H9.out.size 3).mono ?_; rintro e w10 ⟨rfl, hc10⟩
  have H10 := Lib.hid (H9.out.adds hc10)
  clear hc10
  rw [show (nd (st3 v u) 3).size = 2 from rfl]
  go_wp2
  go_ret
  exact ⟨rfl, H10.out.world⟩

end Go.Proofs.Ytfllneenonhonaa.Law7
