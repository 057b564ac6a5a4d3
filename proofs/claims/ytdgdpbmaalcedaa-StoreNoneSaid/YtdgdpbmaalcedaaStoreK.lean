/- The contracts of store.Store, part three: keys, digests, counts. -/
import Derived.Test.YtdgdpbmaalcedaaStoreR
import Derived.Test.YtdgdpbmaalcedaaSlabON
namespace Go.Proofs.Ytdgdpbmaalcedaa.Store
open Go Go.RowKit Go.Proofs.Ytdgdpbmaalcedaa Go.Proofs.Ytdgdpbmaalcedaa.ShaW Go.Proofs.Ytdgdpbmaalcedaa.Path
set_option maxHeartbeats 1600000
set_option linter.unusedVariables false

set_option maxRecDepth 100000 in
theorem Key_ok {w : World} {s : Nat} {F : Nat → Prop} {σ : SlabSt Nd} (h : At w s F σ) (n : Int) :
    Calls Try.prog 33 #[.pointer (some ⟨s, 0, none⟩), .int .i64 n] w fun e w' => e = .returned (.agg (brow (nd σ n).key)) ∧ Adds w w' := by
  have hok := h.ok n
  have hg := fun w1 (hc : Adds w w1) => get_ok (h.adds hc) n
  obtain ⟨N, Z, hN, hn, hz⟩ := told h n
  rw [← hN] at hg
  have k0 : N.extract 34 (34 + 32) = brow (nd σ n).key := by rw [hN]; exact Nd.at_key hok
  obtain ⟨Y, hY⟩ : ∃ Y, Y = brow (List.replicate 32 0) := ⟨_, rfl⟩
  have hzp := zeroP
  rw [← hY] at hzp
  have hYs : Y.size = 32 := by rw [hY]; rfl
  obtain ⟨O, hO⟩ : ∃ O, O = brow (nd σ n).key := ⟨_, rfl⟩
  have hos : O.size = 32 := by rw [hO, brow_size, hok.key]
  have ho1 := brow_one (nd σ n).key
  rw [← hO] at k0 ho1
  have HG := Lib.hid hg
  have HN := Lib.hid hn
  have HZ := Lib.hid hz
  have HY := Lib.hid (And.intro hzp hYs)
  have HO := Lib.hid (And.intro hO (And.intro hos ho1))
  have HK := Lib.hid k0
  clear hok hg hN hn hz h hY hzp hYs hO hos ho1 k0
  go_enter Try.func33, Try.ntmps33
  go_wp2_with (first | ((with_reducible show wpList _ _ _ (⟨_, .alloc 66, _, _, _, _⟩ :: _) _ _); refine wpList_alloc_is rfl 66 rfl (.agg Y) HY.out.1 ?_; dsimp only [Value.cells]; try simp only [World.size_alloc]))
  refine (HG.out _ ((Ch.refl _ _).alloc _)).mono ?_; rintro e w1 ⟨rfl, hc1⟩
  have hy1 := hc1.row (heap_alloc_new w (.cells Y 66)) id
  have C1 := Lib.hid (((Ch.refl (fun _ => False) w).alloc (.cells Y 66)).trans hc1 (fun _ h => h.elim))
  have hlt := row_lt hy1
  have HY1 := Lib.hid hy1
  clear hc1 hy1
  go_wp2_with (first
    | ((with_reducible show wpList _ _ _ (⟨_, .alloc 124, _, _, _, _⟩ :: _) _ _); refine wpList_alloc_is rfl 124 rfl (.agg Z) HZ.out.1 ?_; dsimp only [Value.cells]; try simp only [World.size_alloc])
    | ((with_reducible show wpList _ _ _ (⟨_, .store 124 (.tmp 5) _, _, _, _, _⟩ :: _) _ _); go_must (refine wpList_store_part rfl 124 _ _ rfl w1.heap.size 0 N rfl rfl (heap_alloc_new _ _) (by rw [sizeN, HN.out.1]) (by rw [HN.out.1, HZ.out.2]; omega) HN.out.2 N (by rw [splice_all _ _ (by rw [Array.length_toList, Array.length_toList, HN.out.1, HZ.out.2])]) ?_))
    | ((with_reducible show wpList _ _ _ (⟨_, .load 66 _, _, _, _, _⟩ :: _) _ _); refine wpList_load_part rfl 66 _ rfl w1.heap.size 34 rfl (row_setRow_same (heap_alloc_new _ _) _) Try.underlying66 rfl sizeP (by rw [HN.out.1]; omega) O HK.out ?_)
    | ((with_reducible show wpList _ _ _ (⟨_, .store 66 _ _, _, _, _, _⟩ :: _) _ _); refine wpList_store_part rfl 66 _ _ rfl w.heap.size 0 O rfl rfl (row_setRow (row_alloc HY1.out _) (by omega) _) (by rw [sizeP, HO.out.2.1]) (by rw [HO.out.2.1, HY.out.2]; omega) HO.out.2.2 O (by rw [splice_all _ _ (by rw [Array.length_toList, Array.length_toList, HO.out.2.1, HY.out.2])]) ?_))
  have hws := C1.out.size
  exact bodyPost_ret_cell1 (p := 4) rfl rfl (row_setRow_same (row_setRow (row_alloc HY1.out _) (by omega) _) _) Try.underlying66 rfl (by rw [sizeP, HO.out.2.1]) rfl ⟨by rw [HO.out.1], ((C1.out.alloc _).setRow (.inr hws) _).setRow (.inr (Nat.le_refl _)) _⟩

/-- A handle's digest. -/
def digestOf (σ : SlabSt Nd) (n : Int) : List UInt8 := if n = 0 then Tag.emptyD else (nd σ n).digest
theorem At.digest_length {w : World} {s : Nat} {F : Nat → Prop} {σ : SlabSt Nd} (h : At w s F σ) (n : Int) : (digestOf σ n).length = 32 := by
  unfold digestOf
  split
  · exact Tag.digest_length _ _
  · exact (h.ok n).digest

set_option maxRecDepth 100000 in
theorem Digest_ok {w : World} {s : Nat} {F : Nat → Prop} {σ : SlabSt Nd} (h : At w s F σ) (n : Int) :
    Calls Try.prog 36 #[.pointer (some ⟨s, 0, none⟩), .int .i64 n] w fun e w' => e = .returned (.agg (brow (digestOf σ n))) ∧ Adds w w' := by
  have hok := h.ok n
  have hg := fun w1 (hc : Adds w w1) => get_ok (h.adds hc) n
  obtain ⟨N, Z, hN, hn, hz⟩ := told h n
  rw [← hN] at hg
  have k0 : N.extract 0 (0 + 32) = brow (nd σ n).digest := by rw [hN]; exact Nd.at_digest hok
  obtain ⟨Y, hY⟩ : ∃ Y, Y = brow (List.replicate 32 0) := ⟨_, rfl⟩
  have hzp := zeroH
  rw [← hY] at hzp
  have hYs : Y.size = 32 := by rw [hY]; rfl
  obtain ⟨O, hO⟩ : ∃ O, O = brow (digestOf σ n) := ⟨_, rfl⟩
  have hos : O.size = 32 := by rw [hO, brow_size, h.digest_length]
  have ho1 := brow_one (digestOf σ n)
  rw [← hO] at ho1
  obtain ⟨a, G, h1, _⟩ := h
  have HR := Lib.hid (row_alloc h1 (.cells Y 71))
  have HG := Lib.hid hg
  have HN := Lib.hid hn
  have HZ := Lib.hid hz
  have HY := Lib.hid (And.intro hzp hYs)
  have HO := Lib.hid (And.intro hO (And.intro hos ho1))
  by_cases h0 : n = 0
  · subst h0
    have hE := fun w => Tag.Empty_ok w
    rw [show brow Tag.emptyD = O from hO.symm] at hE
    have HE := Lib.hid hE
    clear hok hg hN hn hz hY hzp hYs hO hos ho1 k0 h1 hE
    go_enter Try.func36, Try.ntmps36
    go_wp2_with (first | ((with_reducible show wpList _ _ _ (⟨_, .alloc 71, _, _, _, _⟩ :: _) _ _); refine wpList_alloc_is rfl 71 rfl (.agg Y) HY.out.1 ?_; dsimp only [Value.cells]; try simp only [World.size_alloc]))
    refine (none_no HR.out).mono ?_; rintro e w1 ⟨rfl, rfl⟩
    go_wp2_with fail
    refine (HE.out _).mono ?_; rintro e w1 ⟨rfl, hc1⟩
    have hy1 := hc1.row (heap_alloc_new w (.cells Y 71)) id
    have C1 := Lib.hid (((Ch.refl (fun _ => False) w).alloc (.cells Y 71)).trans hc1 (fun _ h => h.elim))
    have HY1 := Lib.hid hy1
    clear hc1 hy1
    go_wp2_with (first
      | ((with_reducible show wpList _ _ _ (⟨_, .store 71 _ _, _, _, _, _⟩ :: _) _ _); refine wpList_store_part rfl 71 _ _ rfl w.heap.size 0 O rfl rfl HY1.out (by rw [sizeH, HO.out.2.1]) (by rw [HO.out.2.1, HY.out.2]; omega) HO.out.2.2 O (by rw [splice_all _ _ (by rw [Array.length_toList, Array.length_toList, HO.out.2.1, HY.out.2])]) ?_))
    exact bodyPost_ret_cell1 (p := 4) rfl rfl (row_setRow_same HY1.out _) Try.underlying71 rfl (by rw [sizeH, HO.out.2.1]) rfl ⟨by rw [HO.out.1], C1.out.setRow (.inr (Nat.le_refl _)) _⟩
  · have hn0 : (n == 0) = false := by simpa using h0
    have hK : N.extract 0 (0 + 32) = O := by rw [k0, hO]; unfold digestOf; rw [if_neg h0]
    have HK := Lib.hid hK
    clear hok hg hN hn hz hY hzp hYs hO hos ho1 k0 h1 hK h0
    go_enter Try.func36, Try.ntmps36
    go_wp2_with (first | ((with_reducible show wpList _ _ _ (⟨_, .alloc 71, _, _, _, _⟩ :: _) _ _); refine wpList_alloc_is rfl 71 rfl (.agg Y) HY.out.1 ?_; dsimp only [Value.cells]; try simp only [World.size_alloc]))
    refine (none_no HR.out).mono ?_; rintro e w1 ⟨rfl, rfl⟩
    go_wp2_with fail
    refine (HG.out _ ((Ch.refl _ _).alloc _)).mono ?_; rintro e w1 ⟨rfl, hc1⟩
    have hy1 := hc1.row (heap_alloc_new w (.cells Y 71)) id
    have C1 := Lib.hid (((Ch.refl (fun _ => False) w).alloc (.cells Y 71)).trans hc1 (fun _ h => h.elim))
    have hlt := row_lt hy1
    have HY1 := Lib.hid hy1
    clear hc1 hy1
    go_wp2_with (first
      | ((with_reducible show wpList _ _ _ (⟨_, .alloc 124, _, _, _, _⟩ :: _) _ _); refine wpList_alloc_is rfl 124 rfl (.agg Z) HZ.out.1 ?_; dsimp only [Value.cells]; try simp only [World.size_alloc])
      | ((with_reducible show wpList _ _ _ (⟨_, .store 124 (.tmp 5) _, _, _, _, _⟩ :: _) _ _); go_must (refine wpList_store_part rfl 124 _ _ rfl w1.heap.size 0 N rfl rfl (heap_alloc_new _ _) (by rw [sizeN, HN.out.1]) (by rw [HN.out.1, HZ.out.2]; omega) HN.out.2 N (by rw [splice_all _ _ (by rw [Array.length_toList, Array.length_toList, HN.out.1, HZ.out.2])]) ?_))
      | ((with_reducible show wpList _ _ _ (⟨_, .load 71 _, _, _, _, _⟩ :: _) _ _); refine wpList_load_part rfl 71 _ rfl w1.heap.size 0 rfl (row_setRow_same (heap_alloc_new _ _) _) Try.underlying71 rfl sizeH (by rw [HN.out.1]; omega) O HK.out ?_)
      | ((with_reducible show wpList _ _ _ (⟨_, .store 71 _ _, _, _, _, _⟩ :: _) _ _); refine wpList_store_part rfl 71 _ _ rfl w.heap.size 0 O rfl rfl (row_setRow (row_alloc HY1.out _) (by omega) _) (by rw [sizeH, HO.out.2.1]) (by rw [HO.out.2.1, HY.out.2]; omega) HO.out.2.2 O (by rw [splice_all _ _ (by rw [Array.length_toList, Array.length_toList, HO.out.2.1, HY.out.2])]) ?_))
    have hws := C1.out.size
    exact bodyPost_ret_cell1 (p := 4) rfl rfl (row_setRow_same (row_setRow (row_alloc HY1.out _) (by omega) _) _) Try.underlying71 rfl (by rw [sizeH, HO.out.2.1]) rfl ⟨by rw [HO.out.1], ((C1.out.alloc _).setRow (.inr hws) _).setRow (.inr (Nat.le_refl _)) _⟩

theorem Count_ok {w : World} {s : Nat} {F : Nat → Prop} {σ : SlabSt Nd} (h : At w s F σ) (n : Int) :
    Calls Try.prog 44 #[.pointer (some ⟨s, 0, none⟩), .int .i64 n] w fun e w' => e = .returned (.int .i64 (σ.count n : Nat)) ∧ w = w' := by
  obtain ⟨a, G, h1, h2, _⟩ := h
  have hc := SlabN.Count_ok h2 n
  rw [SlabSt.map_count] at hc
  have HC := Lib.hid hc
  have HR := Lib.hid h1
  have c0 := row_cell h1 (i := 0) rfl
  clear hc h1 h2
  go_enter Try.func44, Try.ntmps44
  go_wp2_with fail
  refine (none_no HR.out).mono ?_; rintro e w1 ⟨rfl, rfl⟩
  go_wp2_with fail
  refine HC.out.mono ?_; rintro e w1 ⟨rfl, rfl⟩
  go_wp2
  go_ret
  exact ⟨rfl, rfl⟩

theorem Occupied_ok {w : World} {s : Nat} {F : Nat → Prop} {σ : SlabSt Nd} (h : At w s F σ) :
    Calls Try.prog 35 #[.pointer (some ⟨s, 0, none⟩)] w fun e w' => e = .returned (.int .i64 (σ.used : Nat)) ∧ w = w' := by
  obtain ⟨a, G, h1, h2, _⟩ := h
  have hc := SlabN.Len_ok h2
  rw [SlabSt.map_used] at hc
  have HC := Lib.hid hc
  have HR := Lib.hid h1
  have c0 := row_cell h1 (i := 0) rfl
  clear hc h1 h2
  go_enter Try.func35, Try.ntmps35
  go_wp2_with fail
  refine (none_no HR.out).mono ?_; rintro e w1 ⟨rfl, rfl⟩
  go_wp2_with fail
  refine HC.out.mono ?_; rintro e w1 ⟨rfl, rfl⟩
  go_wp2
  go_ret
  exact ⟨rfl, rfl⟩

theorem Room_ok {w : World} {s : Nat} {F : Nat → Prop} {σ : SlabSt Nd} (h : At w s F σ) :
    Calls Try.prog 97 #[.pointer (some ⟨s, 0, none⟩)] w fun e w' => e = .returned (.int .i64 (σ.room : Nat)) ∧ w = w' := by
  obtain ⟨a, G, h1, h2, _⟩ := h
  have hc := SlabN.Room_ok h2
  rw [show (σ.map Nd.enc).room = σ.room from rfl] at hc
  have HC := Lib.hid hc
  have HR := Lib.hid h1
  have c0 := row_cell h1 (i := 0) rfl
  clear hc h1 h2
  go_enter Try.func97, Try.ntmps97
  go_wp2_with fail
  refine (none_no HR.out).mono ?_; rintro e w1 ⟨rfl, rfl⟩
  go_wp2_with fail
  refine HC.out.mono ?_; rintro e w1 ⟨rfl, rfl⟩
  go_wp2
  go_ret
  exact ⟨rfl, rfl⟩

theorem map_occ (σ : SlabSt Nd) : ∀ k, (σ.map Nd.enc).occ k = σ.occ k
  | 0 => rfl
  | k + 1 => by
    cases hs : σ.get? ((k : Int) + 1) with
    | none => rw [SlabSt.occ_none hs, SlabSt.occ_none (by rw [SlabSt.map_get?, hs]; rfl), map_occ σ k]
    | some x => rw [SlabSt.occ_some hs, SlabSt.occ_some (s := (x.1.enc, x.2)) (by rw [SlabSt.map_get?, hs]; rfl), map_occ σ k]
/-- All occupied handles, rising. -/
def handles (σ : SlabSt Nd) : List Nat := σ.occ σ.slots.length
def ints (l : List Nat) : List Value := l.map fun n => Value.int .i64 (n : Nat)
theorem Handles_ok {w : World} {s : Nat} {F : Nat → Prop} {σ : SlabSt Nd} (h : At w s F σ) :
    Calls Try.prog 42 #[.pointer (some ⟨s, 0, none⟩)] w fun e w' => ∃ v, e = .returned v ∧ w'.ownsRow w.heap.size 3 1 v (handles σ).length (ints (handles σ)) ∧ Adds w w' := by
  obtain ⟨a, G, h1, h2, _⟩ := h
  have hc := SlabN.Slots_ok h2
  have e : (σ.map Nd.enc).occ (σ.map Nd.enc).slots.length = handles σ := by
    rw [map_occ]; simp [handles, SlabSt.map]
  rw [e] at hc
  have HC := Lib.hid hc
  have HR := Lib.hid h1
  have c0 := row_cell h1 (i := 0) rfl
  clear hc h1 h2 e
  go_enter Try.func42, Try.ntmps42
  go_wp2_with fail
  refine (none_no HR.out).mono ?_; rintro e w1 ⟨rfl, rfl⟩
  go_wp2_with fail
  refine HC.out.mono ?_; rintro e w1 ⟨v, rfl, ho, ha⟩
  have HO := Lib.hid (And.intro ho ha)
  clear ho ha
  go_wp2
  go_ret
  exact ⟨_, rfl, HO.out.1, HO.out.2⟩

end Go.Proofs.Ytdgdpbmaalcedaa.Store
