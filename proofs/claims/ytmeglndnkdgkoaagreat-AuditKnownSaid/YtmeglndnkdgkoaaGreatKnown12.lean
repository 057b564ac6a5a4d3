/- AuditKnown: the document's examples: the walk. -/
import Derived.Test.YtmeglndnkdgkoaaGreatTwo1
import Derived.Test.YtmeglndnkdgkoaaGreatAudS
import Derived.Deep.OwnRows
namespace Go.Proofs.YtmeglndnkdgkoaaGreat.Law12
open Go Go.RowKit Go.Proofs.YtmeglndnkdgkoaaGreat Go.Proofs.YtmeglndnkdgkoaaGreat.ShaW Go.Proofs.YtmeglndnkdgkoaaGreat.Path Go.Proofs.YtmeglndnkdgkoaaGreat.Store Go.Proofs.YtmeglndnkdgkoaaGreat.Law9
set_option maxHeartbeats 6400000
set_option linter.unusedVariables false
section
variable {w0 w w1 : World} {s : Nat} {r : Int}
theorem At2.reach (h : At2 w0 w s r) {ao : Option Addr} (cap : Nat) (hR : IntsAt w ao [r]) :
    Calls Tryz.prog 50 #[.pointer (some ⟨s, 0, none⟩), .slice ao 1 cap] w fun e w' => ∃ qo qc, e = .returned (.tuple #[.slice qo 3 qc, .int .i64 0]) ∧ Adds w w' := by
  obtain ⟨σ, F, hF, T⟩ := h.ex
  refine (Reached_good (R := [r]) hF T.db.good cap hR (chk_roots T (by simp) (fun x hx => by simp at hx; exact .inl hx))).mono ?_
  rintro e w' ⟨v, k, rfl, hk, hown, a⟩
  rw [T.len hk (List.mem_cons_self ..)] at hown
  obtain ⟨qo, qc, rfl⟩ := owns_form hown
  exact ⟨qo, qc, rfl, a⟩
theorem count_r {x : Int} : x ≠ 0 → List.count x [r] = if x = r then 1 else 0 := fun _ => by
  by_cases e : x = r
  · subst e; simp
  · rw [if_neg e]; simp [Ne.symm e]
theorem At2.lost (h : At2 w0 w s r) {ao : Option Addr} (cap : Nat) (hR : IntsAt w ao [r]) :
    Calls Tryz.prog 51 #[.pointer (some ⟨s, 0, none⟩), .slice ao 1 cap] w fun e w' => ∃ qo qc, e = .returned (.tuple #[.slice qo 0 qc, .int .i64 0]) ∧ Adds w w' := by
  obtain ⟨σ, F, hF, T⟩ := h.ex
  refine (Lost_good (R := [r]) hF T.db.good cap hR (chk_roots T (by simp) (fun x hx => by simp at hx; exact .inl hx))).mono ?_
  rintro e w' ⟨v, k, rfl, hk, hown, a⟩
  rw [(T.one hk (fun x => count_r)).2.1] at hown
  obtain ⟨qo, qc, rfl⟩ := owns_form hown
  exact ⟨qo, qc, rfl, a⟩
theorem At2.shared (h : At2 w0 w s r) {ao : Option Addr} (cap : Nat) (hR : IntsAt w ao [r, r]) :
    Calls Tryz.prog 46 #[.pointer (some ⟨s, 0, none⟩), .slice ao 2 cap] w fun e w' => e = .returned (.tuple #[.int .i64 1, .int .i64 0]) ∧ Adds w w' := by
  obtain ⟨σ, F, hF, T⟩ := h.ex
  refine (Shared_good (R := [r, r]) hF T.db.good cap hR (chk_roots T (by simp) (fun x hx => by simp at hx; exact .inl hx))).mono ?_
  rintro e w' ⟨k, rfl, hk, a⟩
  rw [(T.two hk).2]
  exact ⟨rfl, a⟩
theorem At2.long (h : At2 w0 w s r) {ao : Option Addr} {R : List Int} (cap : Nat) (hR : IntsAt w ao R) (hl : R.length = 65) :
    Calls Tryz.prog 42 #[.pointer (some ⟨s, 0, none⟩), .slice ao 65 cap] w fun e w' => e = .returned (.tuple #[.slice none 0 0, .int .i64 4]) ∧ Adds w w' := by
  obtain ⟨σ, F, hF, T⟩ := h.ex
  have hc : chk σ R = 4 := by unfold chk; rw [if_pos (by omega)]
  have := Check_bad hF cap hR (by omega) (by rw [hc]; decide)
  rw [hc, hl] at this
  exact this
theorem At2.miss (h : At2 w0 w s r) {ao : Option Addr} (cap : Nat) (hR : IntsAt w ao [599]) :
    Calls Tryz.prog 42 #[.pointer (some ⟨s, 0, none⟩), .slice ao 1 cap] w fun e w' => e = .returned (.tuple #[.slice none 0 0, .int .i64 7]) ∧ Adds w w' := by
  obtain ⟨σ, F, hF, T⟩ := h.ex
  have hh : has σ 599 = false := by
    refine has_none ?_
    unfold SlabSt.get?
    rw [if_pos (by omega), List.getElem?_eq_none (by have := T.span; omega)]
    rfl
  have hc : chk σ [599] = 7 := by
    unfold chk
    rw [if_neg (by simp)]
    show (if rootErr σ 599 ≠ 0 then rootErr σ 599 else rerr σ []) = 7
    have : rootErr σ 599 = 7 := by unfold rootErr; rw [if_neg (by omega), if_pos hh]
    rw [this]; rfl
  have := Check_bad (R := [599]) hF cap hR (by simp) (by rw [hc]; decide)
  rw [hc] at this
  exact this
theorem At2.sound0 (h : At2 w0 w s r) : Calls Tryz.prog 44 #[.pointer (some ⟨s, 0, none⟩), .int .i64 0] w fun e w' => e = .returned (.tuple #[.bool true, .int .i64 0]) ∧ Adds w w' := by
  obtain ⟨σ, F, hF, T⟩ := h.ex
  exact Sound_zero hF T.db.good
end
theorem made65 : madeCells #[Value.int .i64 0] 65 = (intL (List.replicate 65 0)).toArray := by kernel_rfl
set_option maxRecDepth 100000 in
theorem known_law (w : World) : Calls Tryz.prog 14 #[] w fun e w' => e = .returned (.bool true) ∧ Adds w w' := by
  go_enter Tryz.func14, Tryz.ntmps14
  go_wp2_with fail
  refine (two_ok w).mono ?_; rintro e w1 ⟨s, σ, r, rfl, hT, hO⟩
  obtain ⟨F, hF⟩ := hO.at
  have h1 : At2 w w1 s r := ⟨σ, F, hF, hT⟩
  have H1 := Lib.hid h1
  have A1 := Lib.hid hO.world
  have HC1 := Lib.hid ((h1.adds ((Ch.refl _ w1).alloc (.cells (intL [r]).toArray 3))).reach 1 (ints_new w1 [r]))
  have hr0 := hT.ne
  have hrr := Lib.hid hr0
  clear h1 hF hT hO hr0
  go_wp2_with fail
  refine HC1.out.mono ?_; rintro e w2 ⟨qo2, qc2, rfl, a2⟩
  have A2 := Lib.hid (((Ch.refl (fun _ => False) w1).alloc (.cells (intL [r]).toArray 3)).trans a2 (fun _ h => h.elim))
  have HC2 := Lib.hid (((H1.out.adds A2.out).adds ((Ch.refl _ w2).alloc (.cells (intL [r]).toArray 3))).lost 1 (ints_new w2 [r]))
  clear a2 HC1
  go_wp2_with fail
  refine HC2.out.mono ?_; rintro e w3 ⟨qo3, qc3, rfl, a3⟩
  have A3 := Lib.hid (A2.out.trans (((Ch.refl (fun _ => False) w2).alloc (.cells (intL [r]).toArray 3)).trans a3 (fun _ h => h.elim)) (fun _ h => h.elim))
  have HC3 := Lib.hid (((H1.out.adds A3.out).adds ((Ch.refl _ w3).alloc (.cells (intL [r, r]).toArray 3))).shared 2 (ints_new w3 [r, r]))
  clear a3 HC2 A2
  go_wp2_with fail
  refine HC3.out.mono ?_; rintro e w4 ⟨rfl, a4⟩
  have A4 := Lib.hid (A3.out.trans (((Ch.refl (fun _ => False) w3).alloc (.cells (intL [r, r]).toArray 3)).trans a4 (fun _ h => h.elim)) (fun _ h => h.elim))
  clear a4 HC3 A3
  have hmk : ∀ w : World, (Instr.makeSlice 43 (.int .i64 65) (.int .i64 65)).run Tryz.prog w = .ok (.slice (some ⟨w.heap.size, 0, none⟩) 65 65) (w.alloc (.cells (intL (List.replicate 65 0)).toArray 3)) := fun w => by
    rw [← made65]
    obtain ⟨i, h1, h2, h3, h4⟩ := infoN
    exact run_make_row (P := Tryz.prog) 43 3 i (.int .i64 0) Tryz.underlying43 h1 h2 h3 rfl .i64 .i64 65 (by rw [h4]; decide) (by decide) w
  have HC4 := Lib.hid (((H1.out.adds A4.out).adds ((Ch.refl _ w4).alloc (.cells (intL (List.replicate 65 0)).toArray 3))).long 65 (ints_new w4 (List.replicate 65 0)) (by simp))
  obtain ⟨M, hM⟩ : ∃ M, M = (intL (List.replicate 65 0)).toArray := ⟨_, rfl⟩
  rw [← hM] at hmk HC4
  clear hM
  go_wp2_with fail
  refine HC4.out.mono ?_; rintro e w5 ⟨rfl, a5⟩
  have A5 := Lib.hid (A4.out.trans (((Ch.refl (fun _ => False) w4).alloc (.cells M 3)).trans a5 (fun _ h => h.elim)) (fun _ h => h.elim))
  have HC5 := Lib.hid (((H1.out.adds A5.out).adds ((Ch.refl _ w5).alloc (.cells (intL [599]).toArray 3))).miss 1 (ints_new w5 [599]))
  clear a5 HC4 A4 hmk
  go_wp2_with fail
  refine HC5.out.mono ?_; rintro e w6 ⟨rfl, a6⟩
  have A6 := Lib.hid (A5.out.trans (((Ch.refl (fun _ => False) w5).alloc (.cells (intL [599]).toArray 3)).trans a6 (fun _ h => h.elim)) (fun _ h => h.elim))
  have HC6 := Lib.hid (((H1.out.adds A6.out).adds ((Ch.refl _ w6).alloc (.cells (intL [r, 0, 0]).toArray 3))).chk1 3 (ints_new w6 [r, 0, 0]) (by simp) (fun x hx => by simp at hx; exact hx) (by simp [Ne.symm hrr.out]))
  clear a6 HC5 A5
  go_wp2_with fail
  refine HC6.out.mono ?_; rintro e w7 ⟨qo7, qc7, rfl, a7⟩
  have A7 := Lib.hid (A6.out.trans (((Ch.refl (fun _ => False) w6).alloc (.cells (intL [r, 0, 0]).toArray 3)).trans a7 (fun _ h => h.elim)) (fun _ h => h.elim))
  have HC7 := Lib.hid (H1.out.adds A7.out).sound0
  clear a7 HC6 A6
  go_wp2_with fail
  refine HC7.out.mono ?_; rintro e w8 ⟨rfl, a8⟩
  have A8 := Lib.hid (A7.out.trans a8 (fun _ h => h.elim))
  clear a8 HC7 A7
  go_wp2_with fail
  refine (awake_ok w8).mono ?_; rintro e w9 ⟨rfl, a9⟩
  have A9 := Lib.hid (A1.out.trans (A8.out.trans a9 (fun _ h => h.elim)) (fun _ h => h.elim))
  clear a9
  go_wp2
  go_ret
  exact ⟨rfl, A9.out⟩
end Go.Proofs.YtmeglndnkdgkoaaGreat.Law12
