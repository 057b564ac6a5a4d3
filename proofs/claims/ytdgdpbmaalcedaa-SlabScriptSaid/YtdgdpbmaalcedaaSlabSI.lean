/- The contracts of slab.Slab at one type of things, part five: Set. -/
import Derived.Test.YtdgdpbmaalcedaaSlabGI
import Derived.Test.YtdgdpbmaalcedaaSlabM2
namespace Go.Proofs.Ytdgdpbmaalcedaa.SlabI
open Go Go.RowKit
set_option maxHeartbeats 400000
set_option linter.unusedVariables false

theorem slotT_size : (Try.prog.info? 3).map (·.size) = some 1 := by kernel_rfl

theorem Set_ok {w : World} {a : Nat} {F : Nat → Prop} {σ : SlabSt} (h : At OkV w a F σ) (n : Int) (x : Value) (hx : OkV x) :
    Calls Try.prog 71 #[.pointer (some ⟨a, 0, none⟩), .int .i64 n, x] w fun e w' => e = .returned (.int .i64 (σ.set n x).1) ∧ Moved w w' a F (σ.set n x).2 := by
  have hr := h.1.room
  have hl := h.1.len
  cases hs : σ.get? n with
  | none =>
    have hcnt : σ.set n x = (7, σ) := by simp [SlabSt.set, hs]
    rw [hcnt]
    have HS := Lib.hid hs
    clear hs hcnt
    have h' := h
    obtain ⟨h0, vs, vf, h1, _⟩ := h'
    obtain ⟨c0, c1, c2, c3, fz, hlt⟩ := row4 h1
    clear h0 h1
    have hA := h
    go_enter Try.func71, Try.ntmps71
    go_wp2_with (first
      | (go_at_call 53; refine (none_no _ _ (σ.room : Int) (by go_simp) (by omega)).mono ?_; rintro e w1 ⟨rfl, rfl⟩)
      | (go_at_call 102; refine (at_no okV hA HS.out).mono ?_; rintro e w1 ⟨rfl, rfl⟩))
    go_ret
    exact ⟨rfl, F, hA, Ch.refl _ _, fun k hk => .inl hk⟩
  | some s =>
    obtain ⟨m, rfl, hs', h0, _⟩ := SlabSt.get?_some hs
    have hle := h.1.counts s (List.mem_of_getElem? hs')
    obtain ⟨g, cap, cur, vf, e1, e2, b1, b2, b3, b4, hm, o1, f1, f2, f3, f4, f5, hc, ht⟩ := slot_mem okV h hs'
    obtain ⟨d0, d1, d2, d3, fz, hlt⟩ := row4 e1
    have hcc := row_cell e2 hc
    have hlg := row_lt e2
    have hwf := h.1
    have hag : a ≠ g := Ne.symm f3
    have hcnt : σ.set (m + 1) x = (0, { σ with slots := σ.slots.set m (x, s.2) }) := by
      simp only [SlabSt.set, hs, SlabSt.setAt]
      rw [show ((m : Int) + 1 - 1).toNat = m by omega]
    rw [hcnt]
    have hszs : ∀ s ∈ σ.slots, s.1.cells.size = 1 := fun y hy => okV.size _ (hwf.things y hy)
    have hxs := okV.size x hx
    have hkk : m * 2 + 2 ≤ σ.slots.length * 2 := by have : (m + 1) * 2 ≤ σ.slots.length * 2 := Nat.mul_le_mul_right _ hm; omega
    have hkc : σ.slots.length * 2 ≤ cur.size := by rw [b3]; exact Nat.mul_le_mul_right _ b1
    have HW : Hid (SlabSt.WF OkV { σ with slots := σ.slots.set m (x, s.2) }) := hwf.set hs' h0 hx hle h0
    obtain ⟨new, HN⟩ : ∃ new, Hid ((splice cur.toList (m * 2) x.cells.toList).toArray = new) := ⟨_, rfl⟩
    have HT : Hid (new.toList.take (σ.slots.length * 2) = SlabSt.flat (σ.slots.set m (x, s.2))) := by
      show _ = _
      rw [← HN.out]
      have h1 := take_splice b4 hkc (off := m * 2) (v := x.cells.toList) (by rw [Array.length_toList, hxs]; omega)
      rw [← SlabSt.flat_splice_thing hszs hs' hxs]
      exact h1
    have HS : Hid (new.size = cur.size) := by
      show _ = _
      rw [← HN.out]
      have := splice_length cur.toList (m * 2) x.cells.toList (by rw [Array.length_toList, hxs, Array.length_toList]; omega)
      simpa using this
    have HFit : Hid (m * 2 + 1 ≤ cur.size) := by show _ ≤ _; omega
    have E1 := Lib.hid e1
    have E2 := Lib.hid e2
    have O1 := Lib.hid o1
    have F4 := Lib.hid f4
    have F5 := Lib.hid f5
    have B3 := Lib.hid b3
    have HX := Lib.hid hx
    have hfz := row_free e2 (m * 2)
    have hv : ∃ y, w.cell? ⟨g, m * 2, none⟩ = some y := ⟨cur[m * 2]'(by omega), row_cell e2 (by simp)⟩
    obtain ⟨y, hv⟩ := hv
    clear hxs
    clear e1 e2 hc ht b3 b4 hs hs' h o1 f4 f5 hwf hszs hkk hkc hcnt hle
    have HNC : Hid (new = cur.setIfInBounds (m * 2) x) := by
      show _ = _
      rw [← HN.out]
      apply Array.ext'
      have h1 : x.cells.toList = [x] := by rw [HX.out.1]
      rw [h1]
      have hlt : m * 2 < cur.toList.length := by have := HFit.out; simp; omega
      simp only [splice, Array.toList_setIfInBounds, List.length_singleton]
      rw [List.set_eq_take_append_cons_drop]
      simp at hlt
      simp [hlt]
    go_enter Try.func71, Try.ntmps71
    go_wp2_with (first
      | (go_at_call 53; refine (none_no _ _ (σ.room : Int) (by go_simp) (by omega)).mono ?_; rintro e w1 ⟨rfl, rfl⟩)
      | (go_at_call 102; refine (at_some _ _ g _ cap m s.2 σ.room (by go_simp) (by go_simp) (by omega) hm (by omega) (by go_simp) (by omega)).mono ?_; rintro e w1 ⟨rfl, rfl⟩)
      | ((with_reducible show wpList _ _ _ (⟨_, .store 3 _ _, _, _, _, _⟩ :: _) _ _); refine wpList_store_cell rfl 3 _ _ rfl g (m * 2) x rfl rfl E2.out HFit.out HX.out slotT_size ?_))
    go_ret
    have hA2 := row_set (p := ⟨g, m * 2, none⟩) E1.out hag x
    have hG2 := row_set_same E2.out (m * 2) x
    rw [← HNC.out] at hG2
    refine ⟨rfl, F, SlabAt.make HW.out hA2 rfl (by simp [SlabSt.used]) (by simp only [List.length_set]; exact owns_mk' hG2 b1 b2 (by rw [HS.out, B3.out]) HT.out) ?_ f1 ?_ ?_ ?_, ?_, fun k hk => .inl hk⟩
    · exact ((Ch.refl (fun k => k = g) w).setCell (p := ⟨g, m * 2, none⟩) (.inl rfl) _).owns O1.out (fun k hk e => (F4.out k hk).2.2 e.symm)
    · intro k hk
      simp only [Value.ownBlock, Option.some.injEq] at hk
      subst hk
      exact ⟨f2, f3⟩
    · intro k hk
      obtain ⟨h1, h2, h3⟩ := F4.out k hk
      exact ⟨h1, h2, fun e => by simp only [Value.ownBlock, Option.some.injEq] at e; exact h3 e⟩
    · intro k hk
      have := F5.out k hk
      simp
      try omega
    · exact (Ch.refl F w).setCell (p := ⟨g, m * 2, none⟩) (.inl f2) _

end Go.Proofs.Ytdgdpbmaalcedaa.SlabI
