/- The contracts of slab.Slab at one type of things, part four: Get, Set. -/
import Derived.Test.YtdgdpbmaalcedaaSlabTA
namespace Go.Proofs.Ytdgdpbmaalcedaa.SlabA
open Go Go.RowKit
set_option maxHeartbeats 400000
set_option linter.unusedVariables false

noncomputable def got (σ : SlabSt) (n : Int) : Value := ((σ.get? n).map (·.1)).getD zero
def gotErr (σ : SlabSt) (n : Int) : Int := if (σ.get? n).isSome then 0 else 7

theorem Get_none {w : World} {a : Nat} {F : Nat → Prop} {σ : SlabSt} (h : At OkV w a F σ) (n : Int) (hs : σ.get? n = none) :
    Calls Try.prog 23 #[.pointer (some ⟨a, 0, none⟩), .int .i64 n] w fun e w' => e = .returned (.tuple #[zero, .int .i64 7]) ∧ Adds w w' := by
  have hr := h.1.room
  have HS := Lib.hid hs
  clear hs
  have h' := h
  obtain ⟨h0, vs, vf, h1, _⟩ := h'
  obtain ⟨c0, c1, c2, c3, fz, hlt⟩ := row4 h1
  clear h0 h1
  obtain ⟨zc, hzc, hzs, hz1⟩ := zero_ok
  have HZ : Hid ((Try.prog.info? 40).bind (·.zero) = some (.agg zc)) := by show _ = _; rw [zero_is, hzc]
  rw [hzc]
  have HZS := Lib.hid hzs
  have HZ1 := Lib.hid hz1
  clear hzc hzs hz1
  have hA : At OkV ((w.alloc (.cells zc 40)).alloc (.cells zc 40)) a F σ := h.keep (((Ch.refl (fun _ => False) w).alloc _).alloc _) (fun _ _ h => h)
  go_enter Try.func23, Try.ntmps23
  go_wp2_with (first
    | (go_at_call 59; refine (none_no _ _ (σ.room : Int) (by go_simp) (by omega)).mono ?_; rintro e w1 ⟨rfl, rfl⟩)
    | (go_at_call 60; refine (at_no okV hA HS.out).mono ?_; rintro e w1 ⟨rfl, rfl⟩)
    | (with_reducible show wpList _ _ _ (⟨_, .alloc _, _, _, _, _⟩ :: _) _ _; refine wpList_alloc_is rfl 40 rfl _ HZ.out ?_)
    | (with_reducible show wpList _ _ _ (⟨_, .load 40 _, _, _, _, _⟩ :: _) _ _; refine wpList_load_part rfl 40 _ rfl (w.heap.size + 1) 0 rfl (heap_alloc_at _ (.cells zc 40) _ (by simp)) Try.underlying40 rfl size_is (by rw [HZS.out]; omega) zc (by simp [← HZS.out]) ?_)
    | (with_reducible show wpList _ _ _ (⟨_, .store 40 _ _, _, _, _, _⟩ :: _) _ _; refine wpList_store_part rfl 40 _ _ rfl w.heap.size 0 zc rfl rfl (row_alloc (heap_alloc_new w (.cells zc 40)) _) (by rw [size_is, HZS.out]) (by simp) HZ1.out zc (by rw [splice_all _ _ rfl]) ?_))
  refine bodyPost_ret_cell rfl rfl (row_setRow_same (row_alloc (heap_alloc_new w (.cells zc 40)) _) zc) Try.underlying40 rfl (by rw [size_is, HZS.out]) rfl ⟨rfl, ?_⟩
  exact (((Ch.refl _ _).alloc _).alloc _).setRow (.inr (Nat.le_refl _)) _

theorem Get_some {w : World} {a : Nat} {F : Nat → Prop} {σ : SlabSt} (h : At OkV w a F σ) (n : Int) (s : Value × Nat) (hs : σ.get? n = some s) :
    Calls Try.prog 23 #[.pointer (some ⟨a, 0, none⟩), .int .i64 n] w fun e w' => e = .returned (.tuple #[s.1, .int .i64 0]) ∧ Adds w w' := by
  have hr := h.1.room
  have hl := h.1.len
  obtain ⟨m, rfl, hs', h0, _⟩ := SlabSt.get?_some hs
  have hok : OkV s.1 := h.1.things s (List.mem_of_getElem? hs')
  obtain ⟨g, cap, cur, vf, e1, e2, b1, b2, b3, b4, hm, o1, f1, f2, f3, f4, f5, hc, ht⟩ := slot_mem okV h hs'
  obtain ⟨d0, d1, d2, d3, fz, hlt⟩ := row4 e1
  have hcc := row_cell e2 hc
  have hlg := row_lt e2
  have hms : m * 4 + 4 ≤ cur.size := by
    rw [b3]
    have h1 : (m + 1) * 4 ≤ σ.slots.length * 4 := Nat.mul_le_mul_right _ hm
    have h2 : σ.slots.length * 4 ≤ cap * 4 := Nat.mul_le_mul_right _ b1
    omega
  obtain ⟨zc, hzc, hzs, hz1⟩ := zero_ok
  have HZ : Hid ((Try.prog.info? 40).bind (·.zero) = some (.agg zc)) := by show _ = _; rw [zero_is, hzc]
  obtain ⟨cs, hcs, hsz, hs1⟩ := hok
  rw [hcs] at ht ⊢
  have HV : Hid (cur.extract (m * 4) (m * 4 + 3) = cs) := by
    show _ = _
    apply Array.ext'
    have : (Value.agg cs).cells.toList = cs.toList := rfl
    rw [this] at ht
    rw [← ht]
    simp [List.take_drop]
  have HZS := Lib.hid hzs
  have HSZ := Lib.hid hsz
  have HS1 := Lib.hid hs1
  have E2 := Lib.hid e2
  have HMS : Hid (m * 4 + 3 ≤ cur.size) := by show _ ≤ _; omega
  clear hzc hzs hz1 hcs hsz hs1 e1 e2 hc ht b3 b4 hs hs' h hms o1 f4 f5
  go_enter Try.func23, Try.ntmps23
  go_wp2_with (first
    | (go_at_call 59; refine (none_no _ _ (σ.room : Int) (by go_simp) (by omega)).mono ?_; rintro e w1 ⟨rfl, rfl⟩)
    | (go_at_call 60; refine (at_some _ _ g _ cap m s.2 σ.room (by go_simp) (by go_simp) (by omega) hm (by omega) (by go_simp) (by omega)).mono ?_; rintro e w1 ⟨rfl, rfl⟩)
    | (with_reducible show wpList _ _ _ (⟨_, .alloc _, _, _, _, _⟩ :: _) _ _; refine wpList_alloc_is rfl 40 rfl _ HZ.out ?_)
    | (with_reducible show wpList _ _ _ (⟨_, .load 40 _, _, _, _, _⟩ :: _) _ _; refine wpList_load_part rfl 40 _ rfl g (m * 4) rfl (row_alloc (row_alloc E2.out _) _) Try.underlying40 rfl size_is HMS.out cs HV.out ?_)
    | (with_reducible show wpList _ _ _ (⟨_, .store 40 _ _, _, _, _, _⟩ :: _) _ _; refine wpList_store_part rfl 40 _ _ rfl w.heap.size 0 cs rfl rfl (row_alloc (heap_alloc_new w (.cells zc 40)) _) (by rw [size_is, HSZ.out]) (by rw [HSZ.out, HZS.out]; omega) HS1.out cs (by rw [splice_all _ _ (by rw [Array.length_toList, Array.length_toList, HSZ.out, HZS.out])]) ?_))
  refine bodyPost_ret_cell rfl rfl (row_setRow_same (row_alloc (heap_alloc_new w (.cells zc 40)) _) cs) Try.underlying40 rfl (by rw [size_is, HSZ.out]) rfl ⟨rfl, ?_⟩
  exact (((Ch.refl _ _).alloc _).alloc _).setRow (.inr (Nat.le_refl _)) _

theorem Get_ok {w : World} {a : Nat} {F : Nat → Prop} {σ : SlabSt} (h : At OkV w a F σ) (n : Int) :
    Calls Try.prog 23 #[.pointer (some ⟨a, 0, none⟩), .int .i64 n] w fun e w' => e = .returned (.tuple #[got σ n, .int .i64 (gotErr σ n)]) ∧ Adds w w' := by
  cases hs : σ.get? n with
  | none => simpa [got, gotErr, hs] using Get_none h n hs
  | some s => simpa [got, gotErr, hs] using Get_some h n s hs

end Go.Proofs.Ytdgdpbmaalcedaa.SlabA
