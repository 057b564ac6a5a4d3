/- The contracts of slab.Slab at one type of things, part four: Get, Set. -/
import Derived.Test.YtdgdpbmaalcedaaSlabTI
namespace Go.Proofs.Ytdgdpbmaalcedaa.SlabI
open Go Go.RowKit
set_option maxHeartbeats 400000
set_option linter.unusedVariables false

noncomputable def got (σ : SlabSt) (n : Int) : Value := ((σ.get? n).map (·.1)).getD zero
def gotErr (σ : SlabSt) (n : Int) : Int := if (σ.get? n).isSome then 0 else 7

theorem Get_none {w : World} {a : Nat} {F : Nat → Prop} {σ : SlabSt} (h : At OkV w a F σ) (n : Int) (hs : σ.get? n = none) :
    Calls Try.prog 67 #[.pointer (some ⟨a, 0, none⟩), .int .i64 n] w fun e w' => e = .returned (.tuple #[zero, .int .i64 7]) ∧ Adds w w' := by
  have hr := h.1.room
  have HS := Lib.hid hs
  clear hs
  have h' := h
  obtain ⟨h0, vs, vf, h1, _⟩ := h'
  obtain ⟨c0, c1, c2, c3, fz, hlt⟩ := row4 h1
  clear h0 h1
  have hz : zero = .int .i64 0 := by
    have := zero_is
    have h2 : (Try.prog.info? 3).bind (·.zero) = some (.int .i64 0) := by kernel_rfl
    rw [h2] at this
    exact (Option.some.inj this).symm
  rw [hz]
  go_enter Try.func67, Try.ntmps67
  go_wp2_with (first
    | (go_at_call 53; refine (none_no _ _ (σ.room : Int) (by go_simp) (by omega)).mono ?_; rintro e w1 ⟨rfl, rfl⟩)
    | (go_at_call 102; refine (at_no okV h HS.out).mono ?_; rintro e w1 ⟨rfl, rfl⟩))
  go_ret2
  exact ⟨rfl, Ch.refl _ _⟩

theorem Get_some {w : World} {a : Nat} {F : Nat → Prop} {σ : SlabSt} (h : At OkV w a F σ) (n : Int) (s : Value × Nat) (hs : σ.get? n = some s) :
    Calls Try.prog 67 #[.pointer (some ⟨a, 0, none⟩), .int .i64 n] w fun e w' => e = .returned (.tuple #[s.1, .int .i64 0]) ∧ Adds w w' := by
  have hr := h.1.room
  have hl := h.1.len
  obtain ⟨m, rfl, hs', h0, _⟩ := SlabSt.get?_some hs
  have hok : OkV s.1 := h.1.things s (List.mem_of_getElem? hs')
  obtain ⟨g, cap, cur, vf, e1, e2, b1, b2, b3, b4, hm, o1, f1, f2, f3, f4, f5, hc, ht⟩ := slot_mem okV h hs'
  obtain ⟨d0, d1, d2, d3, fz, hlt⟩ := row4 e1
  have hcc := row_cell e2 hc
  have hlg := row_lt e2
  have hms : m * 2 + 2 ≤ cur.size := by
    rw [b3]
    have h1 : (m + 1) * 2 ≤ σ.slots.length * 2 := Nat.mul_le_mul_right _ hm
    have h2 : σ.slots.length * 2 ≤ cap * 2 := Nat.mul_le_mul_right _ b1
    omega
  have hv : w.cell? ⟨g, m * 2, none⟩ = some s.1 := by
    refine row_cell e2 ?_
    obtain ⟨h1, _⟩ := hok
    rw [h1] at ht
    have := congrArg (fun l => l[0]?) ht
    simpa using this
  clear e1 e2 hc ht b3 b4 hs hs' h hms o1 f4 f5 hok
  obtain ⟨v, c⟩ := s
  simp only at hv hcc ⊢
  go_enter Try.func67, Try.ntmps67
  go_wp2_with (first
    | (go_at_call 53; refine (none_no _ _ (σ.room : Int) (by go_simp) (by omega)).mono ?_; rintro e w1 ⟨rfl, rfl⟩)
    | (go_at_call 102; refine (at_some _ _ g _ cap m c σ.room (by go_simp) (by go_simp) (by omega) hm (by omega) (by go_simp) (by simp at h0; omega)).mono ?_; rintro e w1 ⟨rfl, rfl⟩))
  go_ret2
  exact ⟨rfl, Ch.refl _ _⟩

theorem Get_ok {w : World} {a : Nat} {F : Nat → Prop} {σ : SlabSt} (h : At OkV w a F σ) (n : Int) :
    Calls Try.prog 67 #[.pointer (some ⟨a, 0, none⟩), .int .i64 n] w fun e w' => e = .returned (.tuple #[got σ n, .int .i64 (gotErr σ n)]) ∧ Adds w w' := by
  cases hs : σ.get? n with
  | none => simpa [got, gotErr, hs] using Get_none h n hs
  | some s => simpa [got, gotErr, hs] using Get_some h n s hs

end Go.Proofs.Ytdgdpbmaalcedaa.SlabI
