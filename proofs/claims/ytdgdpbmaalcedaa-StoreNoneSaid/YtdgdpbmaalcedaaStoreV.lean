/- The contracts of store.Store, part four: values; how often callers hold a node. -/
import Derived.Test.YtdgdpbmaalcedaaStoreK
import Derived.Test.YtdgdpbmaalcedaaAppend
namespace Go.Proofs.Ytdgdpbmaalcedaa.Store
open Go Go.RowKit Go.Proofs.Ytdgdpbmaalcedaa Go.Proofs.Ytdgdpbmaalcedaa.ShaW Go.Proofs.Ytdgdpbmaalcedaa.Path
set_option maxHeartbeats 1600000
set_option linter.unusedVariables false

theorem info8 : ∃ i, Try.prog.info? 5 = some i ∧ i.zero = some (.int .u8 0) ∧ i.size = 1 ∧ i.bytes = 1 := by
  obtain ⟨i, h1, h2, h3, h4⟩ := info_parts (P := Try.prog) (e := 5) (z := .int .u8 0) (size := 1) (bytes := 1) (by kernel_rfl)
  exact ⟨i, h1, h2, h3, h4⟩

theorem Value_ok {w : World} {s : Nat} {F : Nat → Prop} {σ : SlabSt Nd} (h : At w s F σ) (n : Int) :
    Calls Try.prog 94 #[.pointer (some ⟨s, 0, none⟩), .int .i64 n] w fun e w' => ∃ v, e = .returned v ∧ Bytes w' v (nd σ n).value ∧ (∀ k, v.ownBlock = some k → w.heap.size ≤ k ∧ k < w'.heap.size) ∧ Adds w w' := by
  have hok := h.ok n
  have hg := get_ok h n
  have hbb := h.bytes n
  obtain ⟨N, Z, hN, hn, hz⟩ := told h n
  rw [← hN] at hg
  have k0 : N[66]? = some (nd σ n).addr := by rw [hN]; exact Nd.at_addr hok
  have hvl := hok.val
  obtain ⟨i0, hi, hz0, hz1, hz2⟩ := info8
  obtain ⟨ao, len, cap, hA⟩ := hok.addr
  rw [hA] at k0 hbb
  generalize (nd σ n).value = bs at hbb hvl
  have HG := Lib.hid hg
  have HN := Lib.hid hn
  have HZ := Lib.hid hz
  have HB := Lib.hid hbb
  have HI := Lib.hid (And.intro hi (And.intro hz0 (And.intro hz1 hz2)))
  have HV := Lib.hid hvl
  clear hok hg hN hn hz h hbb hi hz0 hz1 hz2 hA hvl
  go_enter Try.func94, Try.ntmps94
  go_wp2_with fail
  refine HG.out.mono ?_; rintro e w1 ⟨rfl, hc1⟩
  have c0 := row_cell (row_setRow_same (heap_alloc_new w1 (.cells Z 124)) N) k0
  have C1 := Lib.hid hc1
  clear hc1 k0
  go_wp2_with (first
    | ((with_reducible show wpList _ _ _ (⟨_, .alloc 124, _, _, _, _⟩ :: _) _ _); refine wpList_alloc_is rfl 124 rfl (.agg Z) HZ.out.1 ?_; dsimp only [Value.cells]; try simp only [World.size_alloc])
    | ((with_reducible show wpList _ _ _ (⟨_, .store 124 (.tmp 5) _, _, _, _, _⟩ :: _) _ _); go_must (refine wpList_store_part rfl 124 _ _ rfl w1.heap.size 0 N rfl rfl (heap_alloc_new _ _) (by rw [sizeN, HN.out.1]) (by rw [HN.out.1, HZ.out.2]; omega) HN.out.2 N (by rw [splice_all _ _ (by rw [Array.length_toList, Array.length_toList, HN.out.1, HZ.out.2])]) ?_))
    | (at_builtin; refine wpList_append_copy rfl _ _ 75 rfl 5 i0 Try.underlying75 HI.out.1 HI.out.2.1 HI.out.2.2.1 HI.out.2.2.2 rfl _ rfl bs (HB.out.keep ((C1.out.alloc _).setRow (.inr C1.out.size) _) (fun _ _ h => h)) (by have := HV.out; omega) ?_; intro v' w2 hb2 hk2 hc2; have HB2 := Lib.hid (And.intro hb2 (And.intro hk2 hc2)); clear hb2 hk2 hc2))
  go_ret
  refine ⟨_, rfl, HB2.out.1, fun k hk => ⟨?_, (HB2.out.2.1 k hk).2⟩, ((C1.out.alloc _).setRow (.inr C1.out.size) _).trans HB2.out.2.2 (fun _ h => h.elim)⟩
  have := (HB2.out.2.1 k hk).1
  have := C1.out.size
  simp at *
  omega

end Go.Proofs.Ytdgdpbmaalcedaa.Store
