/- list's calls where there is no store. -/
import Derived.Test.YtfllneenonhonaaStoreZ
import Derived.Test.YtfllneenonhonaaList3
namespace Go.Proofs.Ytfllneenonhonaa.Store
open Go Go.RowKit Go.Proofs.Ytfllneenonhonaa Go.Proofs.Ytfllneenonhonaa.ShaW Go.Proofs.Ytfllneenonhonaa.Path Go.Proofs.Ytfllneenonhonaa.Law9
set_option maxHeartbeats 1600000
set_option linter.unusedVariables false

theorem NoStore.ptr {w : World} {v : Value} (h : NoStore w v) : ∃ p, v = .pointer p := by
  rcases h with rfl | ⟨s, rfl, _⟩ <;> exact ⟨_, rfl⟩
theorem LCount_z {w : World} {v : Value} (h : NoStore w v) (root : Int) :
    Calls Try.prog 9 #[v, .int .i64 root] w fun e w' => e = .returned (.tuple #[.int .i64 0, .int .i64 1]) ∧ Adds w w' := by
  have H := Lib.hid (Root_z h root)
  clear h
  go_enter Try.func9, Try.ntmps9
  go_wp2_with fail
  refine H.out.mono ?_; rintro e w1 ⟨rfl, rfl⟩
  go_wp2
  go_ret2
  exact ⟨rfl, Ch.refl _ _⟩
theorem LRank_z {w : World} {v : Value} (h : NoStore w v) (root : Int) (K : Array Value) :
    Calls Try.prog 10 #[v, .int .i64 root, .agg K] w fun e w' => e = .returned (.tuple #[.int .i64 0, .int .i64 1]) ∧ Adds w w' := by
  have H := Lib.hid (Root_z (h.adds ((Ch.refl _ _).alloc (.cells K 23))) root)
  clear h
  go_enter Try.func10, Try.ntmps10
  go_wp2_with fail
  refine H.out.mono ?_; rintro e w1 ⟨rfl, rfl⟩
  go_wp2
  go_ret2
  exact ⟨rfl, (Ch.refl _ _).alloc _⟩
theorem LNth_z {w : World} {v : Value} (h : NoStore w v) (root n : Int) :
    Calls Try.prog 11 #[v, .int .i64 root, .int .i64 n] w fun e w' => e = .returned (.tuple #[.agg zPair, .int .i64 1]) ∧ Adds w w' := by
  obtain ⟨Z, hZ⟩ : ∃ Z, Z = zPair := ⟨_, rfl⟩
  obtain ⟨hz0, hz1, hz2, hz3⟩ := pair_z
  rw [← hZ] at hz0 hz1 hz2 hz3 ⊢
  have H := Lib.hid (Root_z (h.adds ((Ch.refl _ _).alloc (.cells Z 37))) root)
  have HZ := Lib.hid (And.intro hz0 (And.intro hz1 (And.intro hz2 hz3)))
  clear h hz0 hz1 hz2 hz3 hZ
  go_enter Try.func11, Try.ntmps11
  go_wp2_with (first | fail | ((with_reducible show wpList _ _ _ (⟨_, .alloc 37, _, _, _, _⟩ :: _) _ _); refine wpList_alloc_is rfl 37 rfl (.agg Z) HZ.out.1 ?_; dsimp only [Value.cells]; try simp only [World.size_alloc]))
  refine H.out.mono ?_; rintro e w1 ⟨rfl, rfl⟩
  go_wp2_with (first
    | fail
    | ((with_reducible show wpList _ _ _ (⟨_, .build 37 #[], _, _, _, _⟩ :: _) _ _); refine wpList_build_none rfl 37 rfl Z HZ.out.2.2.2 ?_)
    | ((with_reducible show wpList _ _ _ (⟨_, .store 37 _ _, _, _, _, _⟩ :: _) _ _); refine wpList_store_part rfl 37 _ _ rfl w.heap.size 0 Z rfl rfl (heap_alloc_new _ _) (by rw [sizePr, HZ.out.2.1]) (by rw [HZ.out.2.1]; omega) HZ.out.2.2.1 Z (by rw [splice_all _ _ rfl]) ?_))
  exact bodyPost_ret_cell (p := 6) (u := 7) rfl rfl (row_setRow_same (heap_alloc_new _ _) _) Try.underlying37 rfl (by rw [sizePr, HZ.out.2.1]) rfl ⟨rfl, ((Ch.refl _ _).alloc _).setRow (.inr (Nat.le_refl _)) _⟩
theorem LSome_z {w : World} {v : Value} (h : NoStore w v) (root most : Int) (K : Array Value) :
    Calls Try.prog 13 #[v, .int .i64 root, .agg K, .int .i64 most] w fun e w' => e = .returned (.tuple #[.slice none 0 0, .int .i64 1]) ∧ Adds w w' := by
  have H := Lib.hid (Root_z (h.adds ((Ch.refl _ _).alloc (.cells K 23))) root)
  clear h
  go_enter Try.func13, Try.ntmps13
  go_wp2_with fail
  refine H.out.mono ?_; rintro e w1 ⟨rfl, rfl⟩
  go_wp2
  go_ret2
  exact ⟨rfl, (Ch.refl _ _).alloc _⟩
theorem LBetween_z {w : World} {v : Value} (h : NoStore w v) (root : Int) (A B : Array Value) :
    Calls Try.prog 12 #[v, .int .i64 root, .agg A, .agg B] w fun e w' => e = .returned (.tuple #[.int .i64 0, .int .i64 1]) ∧ Adds w w' := by
  have H := Lib.hid (Root_z (h.adds (((Ch.refl _ _).alloc (.cells A 23)).alloc (.cells B 23))) root)
  clear h
  go_enter Try.func12, Try.ntmps12
  go_wp2_with fail
  refine H.out.mono ?_; rintro e w1 ⟨rfl, rfl⟩
  go_wp2
  go_ret2
  exact ⟨rfl, ((Ch.refl _ _).alloc _).alloc _⟩
theorem LFrom_z {w : World} {v : Value} (h : NoStore w v) (root : Int) (K : Array Value) :
    Calls Try.prog 16 #[v, .int .i64 root, .agg K] w fun e w' => ∃ q, e = .returned q ∧ SeqIs w.heap.size w' [] q ∧ Adds w w' := by
  have ha : Adds w (w.alloc (.cells K 23)) := (Ch.refl _ _).alloc _
  have H := Lib.hid (Root_z (h.adds ha) root)
  have HA := Lib.hid ha
  clear h ha
  go_enter Try.func16, Try.ntmps16
  go_wp2_with fail
  refine H.out.mono ?_; rintro e w1 ⟨rfl, hw⟩
  have A1 := Lib.hid (hw ▸ HA.out : Adds w w1)
  clear hw
  go_wp2_with fail
  refine (over_ok none 0 0 w1).mono ?_; rintro e w3 ⟨rfl, hw3⟩
  have a3 : Adds w1 w3 := by rw [← hw3]; exact (Ch.refl _ _).alloc _
  have r3 : w3.heap[w1.heap.size]? = some (.cells #[.slice none 0 0] 41 (0, 0)) := by rw [← hw3]; exact heap_alloc_new _ _
  have A3 := Lib.hid (And.intro a3 r3)
  clear hw3 a3 r3
  go_wp2
  go_ret
  exact ⟨_, rfl, ⟨w1.heap.size, _, [], rfl, A1.out.size, A3.out.2, Told.none _ _, rfl, (fun e => by cases e), (fun x hx => by cases hx)⟩, A1.out.trans A3.out.1 (fun _ h => h.elim)⟩
theorem LAll_z {w : World} {v : Value} (h : NoStore w v) (root : Int) :
    Calls Try.prog 15 #[v, .int .i64 root] w fun e w' => ∃ q, e = .returned q ∧ SeqIs w.heap.size w' [] q ∧ Adds w w' :=
  All_of (R := fun q w' => SeqIs w.heap.size w' [] q ∧ Adds w w') (LFrom_z h root _) h.ptr
end Go.Proofs.Ytfllneenonhonaa.Store
