/- path.Of and path.Bytes: a key's bytes as a key, and back. -/
import Derived.Test.YtooijgcildbnlaaGreatRowG
import Derived.Test.YtooijgcildbnlaaGreatLawsA
namespace Go.Proofs.YtooijgcildbnlaaGreat.Store
open Go Go.RowKit Go.Proofs.YtooijgcildbnlaaGreat Go.Proofs.YtooijgcildbnlaaGreat.ShaW Go.Proofs.YtooijgcildbnlaaGreat.Path Go.Proofs.YtooijgcildbnlaaGreat.Law9
set_option maxHeartbeats 1600000
set_option linter.unusedVariables false
set_option maxRecDepth 100000

theorem path_built : Tryz.prog.built 24 [] = some (brow (List.replicate 32 0)) := by kernel_rfl
/-- A key of another length. -/
theorem Of_bad (ao : Option Addr) (len cap : Nat) (h : len ≠ 32) (w : World) :
    Calls Tryz.prog 120 #[.slice ao len cap] w fun e w' => e = .returned (.tuple #[.agg (brow (List.replicate 32 0)), .int .i64 3]) ∧ Adds w w' := by
  have hne : ¬ (len : Int) = 32 := by omega
  clear h
  go_enter Tryz.func120, Tryz.ntmps120
  go_wp2_with (first
    | fail
    | ((with_reducible show wpList _ _ _ (⟨_, .alloc 24, _, _, _, _⟩ :: _) _ _); refine wpList_alloc_is rfl 24 rfl (.agg (brow (List.replicate 32 0))) zeroP ?_; dsimp only [Value.cells]; try simp only [World.size_alloc])
    | ((with_reducible show wpList _ _ _ (⟨_, .store 24 _ _, _, _, _, _⟩ :: _) _ _); refine wpList_store_part rfl 24 _ _ rfl w.heap.size 0 (brow (List.replicate 32 0)) rfl rfl (heap_alloc_new _ _) (by rw [sizeP]; rfl) (Nat.le_of_eq (Nat.zero_add _)) (brow_one _) (brow (List.replicate 32 0)) (by rw [splice_all _ _ (by rw [Array.length_toList, Array.length_toList]; rfl)]) ?_))
  exact bodyPost_ret_cell (p := 2) (u := 3) rfl rfl (row_setRow_same (heap_alloc_new _ _) _) Tryz.underlying24 rfl (by rw [sizeP]; rfl) rfl ⟨rfl, ((Ch.refl _ _).alloc _).setRow (.inr (Nat.le_refl _)) _⟩
theorem bytes_part {w : World} {ao : Option Addr} {len cap : Nat} {bs : List UInt8} (h : Bytes w (.slice ao len cap) bs) (h0 : 0 < bs.length) : ∃ g off, ao = some ⟨g, off, none⟩ ∧ PartAt w g off (brow bs) := by
  obtain ⟨_, ha⟩ := h.at
  obtain ⟨g, off, e, _⟩ := ha 0 bs[0] (List.getElem?_eq_getElem h0)
  refine ⟨g, off, e, ?_⟩
  have := PartAt.of_cells (w := w) (g := g) (o := off) (m := bs.length) (cs := bs.map bv) h0 (by simp) (fun i hi => by
    obtain ⟨g', off', e', hc⟩ := ha i bs[i] (List.getElem?_eq_getElem hi)
    rw [e] at e'
    injection e' with e'
    injection e' with e1 e2
    subst e1 e2
    rw [hc, List.getElem?_map, List.getElem?_eq_getElem hi]
    rfl)
  exact this
theorem Of_ok {w : World} {v : Value} {bs : List UInt8} (h : Bytes w v bs) (hl : bs.length = 32) :
    Calls Tryz.prog 120 #[v] w fun e w' => e = .returned (.tuple #[.agg (brow bs), .int .i64 0]) ∧ Adds w w' := by
  obtain ⟨ao, cap, rfl, hcl, _⟩ := h.form
  rw [hl] at h hcl ⊢
  obtain ⟨g, off, rfl, cur, ty, fr, c1, c2, c3⟩ := bytes_part h (by omega)
  obtain ⟨Z, hZ⟩ : ∃ Z, Z = brow (List.replicate 32 0) := ⟨_, rfl⟩
  have hzd := zeroP
  have hZs : Z.size = 32 := by rw [hZ]; rfl
  rw [← hZ] at hzd
  have HZ := Lib.hid (And.intro hzd hZs)
  have hks : (brow bs).size = 32 := by rw [brow_size]; exact hl
  have hk1 := brow_one bs
  rw [hks] at c2 c3
  obtain ⟨K, hK⟩ : ∃ K, K = brow bs := ⟨_, rfl⟩
  rw [← hK] at hks hk1 c3 ⊢
  have HK := Lib.hid (And.intro hks (And.intro hk1 c3))
  have C1 := Lib.hid (And.intro (row_alloc c1 (.cells Z 24)) c2)
  have hlt := row_lt c1
  have ha : ∀ w0, (Instr.arrayAt 24 (.slice (some ⟨g, off, none⟩) 32 cap)).run Tryz.prog w0 = .ok (.pointer (some ⟨g, off, none⟩)) w0 := fun w0 => by
    unfold Instr.arrayAt
    simp [Go.underlying, Tryz.underlying24]
  clear h hcl hl hZ hzd hZs hks hk1 hK c1 c2 c3
  go_enter Tryz.func120, Tryz.ntmps120
  go_wp2_with (first
    | fail
    | ((with_reducible show wpList _ _ _ (⟨_, .alloc 24, _, _, _, _⟩ :: _) _ _); refine wpList_alloc_is rfl 24 rfl (.agg Z) HZ.out.1 ?_; dsimp only [Value.cells]; try simp only [World.size_alloc])
    | ((with_reducible show wpList _ _ _ (⟨_, .load 24 _, _, _, _, _⟩ :: _) _ _); refine wpList_load_part rfl 24 _ rfl g off rfl C1.out.1 Tryz.underlying24 rfl sizeP (by have := C1.out.2; omega) K HK.out.2.2 ?_)
    | ((with_reducible show wpList _ _ _ (⟨_, .store 24 _ _, _, _, _, _⟩ :: _) _ _); refine wpList_store_part rfl 24 _ _ rfl w.heap.size 0 K rfl rfl (heap_alloc_new _ _) (by rw [sizeP, HK.out.1]) (by rw [HK.out.1, HZ.out.2]; omega) HK.out.2.1 K (by rw [splice_all _ _ (by rw [Array.length_toList, Array.length_toList, HK.out.1, HZ.out.2])]) ?_))
  exact bodyPost_ret_cell (p := 2) (u := 3) rfl rfl (row_setRow_same (heap_alloc_new _ _) _) Tryz.underlying24 rfl (by rw [sizeP, HK.out.1]) rfl ⟨rfl, ((Ch.refl _ _).alloc _).setRow (.inr (Nat.le_refl _)) _⟩
end Go.Proofs.YtooijgcildbnlaaGreat.Store
