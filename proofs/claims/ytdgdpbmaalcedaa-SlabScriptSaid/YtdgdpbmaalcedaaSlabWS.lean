/- The contracts of slab.Slab at one type of things, part two: Drop, Take, Get, Set. -/
import Derived.Test.YtdgdpbmaalcedaaSlabS
namespace Go.Proofs.Ytdgdpbmaalcedaa.SlabS
open Go Go.RowKit
set_option maxHeartbeats 400000
set_option linter.unusedVariables false

theorem int_info : ∃ i, Try.prog.info? 3 = some i ∧ i.zero = some (.int .i64 0) ∧ i.size = 1 ∧ i.bytes = 8 := by
  obtain ⟨i, h1, h2, h3, h4⟩ := info_parts (P := Try.prog) (e := 3) (z := .int .i64 0) (size := 1) (bytes := 8) (by kernel_rfl)
  exact ⟨i, h1, h2, h3, h4⟩
theorem cleared_size : cleared.size = 2 := by
  have := congrArg List.length cleared_eq
  simp only [List.length_append, Array.length_toList, List.length_cons, List.length_nil, okV.size _ zero_ok] at this
  exact this
theorem cleared_one : ∀ c ∈ cleared.toList, c.oneCell' = true := fun c hc => by
  rw [cleared_eq] at hc
  rcases List.mem_append.1 hc with hc | hc
  · exact okV.one _ zero_ok c hc
  · simp only [List.mem_singleton] at hc; subst hc; rfl

set_option maxRecDepth 100000 in
theorem Drop_ok {w : World} {a : Nat} {F : Nat → Prop} {σ : SlabSt} (h : At OkV w a F σ) (n : Int) :
    Calls Try.prog 15 #[.pointer (some ⟨a, 0, none⟩), .int .i64 n] w fun e w' => e = .returned (.tuple #[.bool (σ.drop zero n).1, .int .i64 (σ.drop zero n).2.1]) ∧ Moved w w' a F (σ.drop zero n).2.2 := by
  have hr := h.1.room
  have hl := h.1.len
  cases hs : σ.get? n with
  | none =>
    have hcnt : σ.drop zero n = (false, 7, σ) := by simp [SlabSt.drop, hs]
    rw [hcnt]
    have HS := Lib.hid hs
    clear hs hcnt
    have h' := h
    obtain ⟨h0, vs, vf, h1, _⟩ := h'
    obtain ⟨c0, c1, c2, c3, fz, hlt⟩ := row4 h1
    go_enter Try.func15, Try.ntmps15
    go_wp2_with (first | (go_at_call 54; refine (none_no _ _ (σ.room : Int) (by go_simp) (by omega)).mono ?_; rintro e w1 ⟨rfl, rfl⟩) | (go_at_call 55; refine (at_no okV h HS.out).mono ?_; rintro e w1 ⟨rfl, rfl⟩))
    go_ret2
    exact ⟨rfl, F, h, Ch.refl _ _, fun k hk => .inl hk⟩
  | some s =>
    obtain ⟨m, rfl, hs', h0, _⟩ := SlabSt.get?_some hs
    have hle := h.1.counts s (List.mem_of_getElem? hs')
    obtain ⟨g, cap, cur, vf, e1, e2, b1, b2, b3, b4, hm, o1, f1, f2, f3, f4, f5, hc, ht⟩ := slot_mem okV h hs'
    obtain ⟨d0, d1, d2, d3, fz, hlt⟩ := row4 e1
    have hcc := row_cell e2 hc
    have hlg := row_lt e2
    have hfg := row_free e2 (m * 2 + 1)
    have hwf := h.1
    have hfree := hwf.free_lt hs' h0
    by_cases hmax : s.2 = 1
    · have hcnt : σ.drop zero (m + 1) = (true, 0, { σ with slots := σ.slots.set m (zero, 0), free := σ.free ++ [m + 1] }) := by
        simp only [SlabSt.drop, hs, if_pos hmax, SlabSt.setAt]
        rw [show ((m : Int) + 1 - 1).toNat = m by omega, show ((m : Int) + 1).toNat = m + 1 by omega]
      rw [hcnt]
      have hszs : ∀ s ∈ σ.slots, s.1.cells.size = 1 := fun x hx => okV.size _ (hwf.things x hx)
      have HW : Hid (SlabSt.WF OkV { σ with slots := σ.slots.set m (zero, 0), free := σ.free ++ [m + 1] }) := hwf.letGo hs' h0 zero_ok
      have hA' : (cur.setIfInBounds (m * 2 + 1) (.int .i64 ((s.2 : Nat) - 1 : Int))).toList.take (σ.slots.length * 2) = SlabSt.flat (σ.slots.set m (s.1, 0)) := by
        
        rw [Array.toList_setIfInBounds, List.take_set, b4, show ((s.2 : Nat) - 1 : Int) = ((0 : Nat) : Int) by omega]; exact SlabSt.flat_set_count hszs hs' 0
      have hkk : m * 2 + 2 ≤ σ.slots.length * 2 := by have : (m + 1) * 2 ≤ σ.slots.length * 2 := Nat.mul_le_mul_right _ hm; omega
      have hkc : σ.slots.length * 2 ≤ cur.size := by rw [b3]; exact Nat.mul_le_mul_right _ b1
      obtain ⟨new, HN⟩ : ∃ new, Hid ((splice (cur.setIfInBounds (m * 2 + 1) (.int .i64 ((s.2 : Nat) - 1 : Int))).toList (m * 2) cleared.toList).toArray = new) := ⟨_, rfl⟩
      have HT : Hid (new.toList.take (σ.slots.length * 2) = SlabSt.flat (σ.slots.set m (zero, 0))) := by
        show _ = _
        rw [← HN.out]
        have h1 := take_splice hA' (by simpa using hkc) (off := m * 2) (v := cleared.toList) (by simp [cleared_size]; omega)
        have h2 := SlabSt.flat_splice (sz := 1) (l := σ.slots.set m (s.1, 0)) (i := m) (s := (zero, 0)) (fun x hx => by
          rcases List.mem_or_eq_of_mem_set hx with hx | rfl
          · exact hszs x hx
          · exact hszs s (List.mem_of_getElem? hs')) (by simpa using hm) zero_size
        rw [← cleared_eq, List.set_set] at h2
        exact h1.trans h2
      have HS : Hid (new.size = cur.size) := by
        show _ = _
        rw [← HN.out]
        have := splice_length (cur.setIfInBounds (m * 2 + 1) (.int .i64 ((s.2 : Nat) - 1 : Int))).toList (m * 2) cleared.toList (by simp [cleared_size]; omega)
        simpa using this
      have HFit : Hid (m * 2 + cleared.size ≤ (cur.setIfInBounds (m * 2 + 1) (.int .i64 ((s.2 : Nat) - 1 : Int))).size) := by show _ ≤ _; simp [cleared_size]; omega
      have hb : (0 : Int) < σ.used := by simp [SlabSt.used]; omega
      have hb0 : ((s.2 : Nat) : Int) - 1 ≤ 0 := by omega
      have E1 := Lib.hid e1
      have E2 := Lib.hid e2
      have hag : a ≠ g := Ne.symm f3
      have hfa : ∀ k, vf.ownBlock = some k → ¬ (k = g) := fun k hk e => (f4 k hk).2.2 e.symm
      have hub : σ.used ≤ 65536 := by simp [SlabSt.used]; omega
      have hml : (m : Int) ≤ 65535 := by omega
      have hs2 : 1 ≤ s.2 := by omega
      obtain ⟨i0, hi0, hz0, hz1, hz2⟩ := int_info
      have HI := Lib.hid hi0
      have HZ0 := Lib.hid hz0
      have HZ1 := Lib.hid hz1
      have HZ2 := Lib.hid hz2
      have HB3 := Lib.hid b3
      have HFA := Lib.hid hfa
      have F4 := Lib.hid f4
      have F5 := Lib.hid f5
      have O1 := Lib.hid o1
      clear hs hs' hcnt hmax ht b4 e1 e2 hc hwf h hA' hszs b3 hi0 hz0 hz1 hz2 h0 hfa f4 f5 o1 hkk hkc
      go_enter Try.func15, Try.ntmps15
      go_wp2_with (first
        | (go_at_call 54; refine (none_no _ _ (σ.room : Int) (by go_simp) (by omega)).mono ?_; rintro e w1 ⟨rfl, rfl⟩) | (go_at_call 55; refine (at_some _ _ g _ cap m s.2 σ.room (by go_simp) (by go_simp) (by omega) hm (by omega) (by go_simp) (by omega)).mono ?_; rintro e w1 ⟨rfl, rfl⟩) | (with_reducible show wpList _ _ _ (⟨_, .build 100 _, _, _, _, _⟩ :: _) _ _; refine wpList_build_none rfl 100 rfl cleared cleared_is ?_) | (with_reducible show wpList _ _ _ (⟨_, .store 100 _ _, _, _, _, _⟩ :: _) _ _; refine wpList_store_part rfl 100 _ _ rfl g (m * 2) cleared rfl rfl (row_set_same E2.out _ _) (by rw [slot_size, cleared_size]) HFit.out cleared_one new HN.out ?_)
        | (at_builtin; refine wpList_append_mine rfl _ _ 58 rfl 3 i0 (.int .i64 0) 1 8 Try.underlying58 HI.out HZ0.out HZ1.out HZ2.out rfl (by decide) vf σ.free.length _ rfl ((((Ch.refl (fun k => k = g) w).setCell (p := ⟨g, m * 2 + 1, none⟩) (.inl rfl) _).setRow (.inl rfl) _).alloc _ |>.owns O1.out HFA.out) ⟨w.heap.size, 0, none⟩ 1 1 [.int .i64 (m + 1)] rfl rfl (row_news (cs := #[.int .i64 (m + 1)]) (t := 3) (fr := (0, 0)) (heap_alloc_at _ _ _ (by simp))) (by simp [Value.oneCell']) (by unfold maxLen; omega) (by omega) ?_; intro v0 w1 own' grow' ob'; obtain ⟨ao', cap', rfl⟩ := owns_form own'; have CH : Ch (fun k => k = g ∨ vf.ownBlock = some k) w w1 := ((((Ch.refl _ w).setCell (p := ⟨g, m * 2 + 1, none⟩) (.inl (.inl rfl)) _).setRow (.inl (.inl rfl)) _).alloc _).grown grow' (fun k hk => .inl (.inr hk)); have hA1 := CH.row E1.out (fun h => h.elim hag (fun h => (F4.out a h).2.1 rfl)); have hG1 := (grow'.block g (by simp; omega) (fun e => (F4.out g e.symm).2.2 rfl)).trans (row_alloc (row_setRow_same (row_set_same E2.out _ _) _) _); have hsz1 : w.heap.size + 1 ≤ w1.heap.size := (by have := grow'.size; simpa using this); have OB : Hid ((Value.slice ao' (σ.free.length + 1) cap').ownBlock = vf.ownBlock ∨ ∀ k, (Value.slice ao' (σ.free.length + 1) cap').ownBlock = some k → w.heap.size ≤ k) := ob'.imp id (fun h k hk => (by have := h k hk; simp at this; omega)); obtain ⟨c0, c1, c2, c3, cfz, clt⟩ := row4 hA1; have A1 := Lib.hid hA1; have G1 := Lib.hid hG1; have OW := Lib.hid own'; have CC := Lib.hid CH; clear hA1 hG1 own' CH grow' ob' d0 d1 d2 d3 fz hlt hcc hlg hfg))
      go_ret2
      have hA2 := row_set_same (row_set_same A1.out 1 (Value.slice ao' (σ.free.length + 1) cap')) 3 (.int .i64 ((σ.used : Int) - 1))
      have hne : ∀ k, (Value.slice ao' (σ.free.length + 1) cap').ownBlock = some k → k ≠ a ∧ k ≠ g ∧ (F k ∨ w.heap.size ≤ k) := fun k hk => by
        rcases OB.out with e | e
        · rw [e] at hk
          exact ⟨(F4.out k hk).2.1, fun e => (F4.out k hk).2.2 e.symm, .inl (F4.out k hk).1⟩
        · have := e k hk
          have h1 := F5.out a f1
          have h2 := F5.out g f2
          exact ⟨by omega, by omega, .inr this⟩
      refine ⟨rfl, fun k => F k ∨ (w.heap.size ≤ k ∧ k < w1.heap.size), SlabAt.make HW.out hA2 rfl ?_ ?_ ?_ (.inl f1) ?_ ?_ ?_, ?_, fun k hk => hk.imp id (fun h => h.1)⟩
      · simp [SlabSt.used]; simp [SlabSt.used] at hb; omega
      · have := row_set (p := ⟨a, 3, none⟩) (row_set (p := ⟨a, 1, none⟩) G1.out f3 (Value.slice ao' (σ.free.length + 1) cap')) f3 (.int .i64 ((σ.used : Int) - 1))
        simp only [List.length_set]
        exact owns_mk' this b1 b2 (by rw [HS.out, HB3.out]) HT.out
      · have := ((Ch.refl (fun k => k = a) w1).setCell (p := ⟨a, 1, none⟩) (.inl rfl) (Value.slice ao' (σ.free.length + 1) cap') |>.setCell (p := ⟨a, 3, none⟩) (.inl rfl) (.int .i64 ((σ.used : Int) - 1))).owns OW.out (fun k hk e => (hne k hk).1 e)
        simpa using this
      · intro k hk
        simp only [Value.ownBlock, Option.some.injEq] at hk
        subst hk
        exact ⟨.inl f2, f3⟩
      · intro k hk
        obtain ⟨h1, h2, h3⟩ := hne k hk
        refine ⟨h3.imp id (fun h => ⟨h, (OW.out.lt k hk).2⟩), h1, ?_⟩
        simp only [Value.ownBlock, Option.some.injEq, ne_eq]
        exact fun e => h2 e.symm
      · intro k hk
        simp only [World.size_setCell]
        rcases hk with hk | hk
        · have := F5.out k hk
          omega
        · exact hk.2
      · refine (((CC.out).mono ?_).setCell (p := ⟨a, 1, none⟩) (.inl f1) _).setCell (p := ⟨a, 3, none⟩) (.inl f1) _
        rintro k hk (rfl | h)
        · exact f2
        · exact (F4.out k h).1
    · have hcnt : σ.drop zero (m + 1) = (false, 0, { σ with slots := σ.slots.set m (s.1, s.2 - 1) }) := by
        simp only [SlabSt.drop, hs, if_neg hmax, SlabSt.setAt]
        rw [show ((m : Int) + 1 - 1).toNat = m by omega]
      rw [hcnt]
      have HW : Hid (SlabSt.WF OkV { σ with slots := σ.slots.set m (s.1, s.2 - 1) }) := hwf.set hs' h0 (hwf.things s (List.mem_of_getElem? hs')) (by simp; omega) (by simp; omega)
      have HF : Hid ((SlabSt.flat σ.slots).set (m * 2 + 1) (.int .i64 ((s.2 : Nat) - 1 : Int)) = SlabSt.flat (σ.slots.set m (s.1, s.2 - 1))) := by
        have := SlabSt.flat_set_count (fun x hx => okV.size _ (hwf.things x hx)) hs' (s.2 - 1)
        rw [show (((s.2 - 1 : Nat)) : Int) = (s.2 : Int) - 1 by omega] at this
        exact this
      have hb : (0 : Int) < (s.2 : Int) - 1 := by omega
      have HB := Lib.hid b4
      have E1 := Lib.hid e1
      have E2 := Lib.hid e2
      clear hs hs' hcnt hmax ht b4 e1 e2 hc hwf h
      go_enter Try.func15, Try.ntmps15
      go_wp2_with (first | (go_at_call 54; refine (none_no _ _ (σ.room : Int) (by go_simp) (by omega)).mono ?_; rintro e w1 ⟨rfl, rfl⟩) | (go_at_call 55; refine (at_some _ _ g _ cap m s.2 σ.room (by go_simp) (by go_simp) (by omega) hm (by omega) (by go_simp) (by omega)).mono ?_; rintro e w1 ⟨rfl, rfl⟩))
      go_ret2
      refine ⟨rfl, F, SlabAt.make HW.out (row_set (p := ⟨g, m * 2 + 1, none⟩) E1.out (Ne.symm f3) _) rfl (by simp [SlabSt.used]) ?_ ((Ch.setCell (F := fun k => k = g) (Ch.refl _ _) (.inl rfl) _).owns o1 (fun k hk e => (f4 k hk).2.2 e.symm)) f1 ?_ ?_ (by simpa using f5), (Ch.refl _ _).setCell (.inl f2) _, fun k hk => .inl hk⟩
      · have := row_set_same E2.out (m * 2 + 1) (.int .i64 ((s.2 : Nat) - 1 : Int))
        simp only [List.length_set]
        refine owns_mk this b1 b2 (by simpa using b3) ?_
        rw [Array.toList_setIfInBounds, List.take_set, HB.out, HF.out]
      · simpa [Value.ownBlock] using ⟨f2, f3⟩
      · simpa [Value.ownBlock] using f4

end Go.Proofs.Ytdgdpbmaalcedaa.SlabS
