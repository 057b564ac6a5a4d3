/- For every room and every acts the law SlabCounts returns true. -/
import Derived.Test.YtdgdpbmaalcedaaCountsW
import Derived.Test.YtdgdpbmaalcedaaRows
import Derived.ProofKit
import Derived.OpenShut
import Derived.ChangeOld
import Derived.Deep.Slices
namespace Go.Proofs.Ytdgdpbmaalcedaa.slabCounts
open Go.ChangeShapes Go.WideShapes Go.ChangeAt Go.RowKit Go.Deep
set_option linter.unusedVariables false

theorem three {α : Type} {l : List α} (h : l.length = 3) : ∃ a b c, l = [a, b, c] := by
  match l, h with
  | [a, b, c], _ => exact ⟨a, b, c, rfl⟩
theorem add_plain (g off n : Nat) : (⟨g, off, none⟩ : Addr).add n = ⟨g, off + n, none⟩ := by
  unfold Addr.add
  split
  · subst n; rfl
  · rfl
theorem cell_spot (w : World) (a : Addr) (h : a.spot.isSome = true) : w.cell? a = none := by
  unfold World.cell?
  split
  · rw [if_pos h]
  · rfl
theorem cells_act : Try.prog.cellsOf 40 = 3 := by kernel_rfl
theorem cells_int : Try.prog.cellsOf 3 = 1 := by kernel_rfl

set_option maxRecDepth 100000 in
/-- An act that was read is three numbers. -/
theorem act_cells {H : Type} {enc : TypeId × Value → H} {W : World} {base : Nat} {sp : Nat → Bool} {held : Bool} {n : Nat} {cs : List Value} {x : DataW H × List MemPlace}
    (h : DataW.trod enc Try.prog W base sp held n 40 cs = some x) : ∃ kd sl y, cs = [.int .i64 kd, .int .i64 sl, .int .i64 y] ∧ (Lit.int .i64 sl).wf = true := by
  obtain ⟨xs, m, rfl, hx, hl, hxl, hf⟩ := DataW.trod_struct Try.underlying40 h
  rw [cells_act] at hl
  have hx3 : xs.length = 3 := hxl
  obtain ⟨c0, c1, c2, rfl⟩ := three hl
  obtain ⟨x0, x1, x2, rfl⟩ := three hx3
  have f0 : DataW.trod enc Try.prog W base sp held m 3 (List.take (Try.prog.cellsOf 3) [c0, c1, c2]) = some x0 := hf 0 ⟨ "Kind", 3, 0, false, "", "", 0⟩ rfl
  have f1 : DataW.trod enc Try.prog W base sp held m 3 (List.take (Try.prog.cellsOf 3) [c1, c2]) = some x1 := hf 1 ⟨ "Slot", 3, 1, false, "", "", 8⟩ rfl
  have f2 : DataW.trod enc Try.prog W base sp held m 3 (List.take (Try.prog.cellsOf 3) [c2]) = some x2 := hf 2 ⟨ "X", 3, 2, false, "", "", 16⟩ rfl
  rw [cells_int] at f0 f1 f2
  obtain ⟨n0, e0, _, _⟩ := DataW.trod_int Try.underlying3 (cs := [c0]) f0
  obtain ⟨n1, e1, _, w1⟩ := DataW.trod_int Try.underlying3 (cs := [c1]) f1
  obtain ⟨n2, e2, _, _⟩ := DataW.trod_int Try.underlying3 (cs := [c2]) f2
  cases e0; cases e1; cases e2
  exact ⟨_, _, _, rfl, w1⟩

set_option maxRecDepth 100000 in
/-- The acts that came in: a row of threes of numbers. -/
theorem opened1 {H : Type} {enc : TypeId × Value → H} {W : World} {base : Nat} {v : Value} {d : DataW H} {p : List MemPlace} (hv : Value.okWide Try.prog W .any base 35 v)
    (h : DataW.Trod enc Try.prog W 0 (fun _ => true) true 35 v d p) : ∃ ao len cap, v = .slice ao len cap ∧ Cnt.ActsAt W ao len := by
  obtain ⟨ao, len, cap, rfl⟩ := okWide_slice Try.underlying35 hv
  obtain ⟨m, hm⟩ := h
  rcases open_slice Try.underlying35 hm with ⟨h0, _⟩ | ⟨a, l, c, mm, n, D, Pl, hcs, hb, hl, hc, hmm, hx, hi⟩
  · simp only [Value.cells, List.cons.injEq, Value.slice.injEq, and_true] at h0
    obtain ⟨rfl, rfl, rfl⟩ := h0
    exact ⟨_, _, _, rfl, fun i hi => absurd hi (Nat.not_lt_zero i)⟩
  · simp only [Value.cells, List.cons.injEq, Value.slice.injEq, and_true] at hcs
    obtain ⟨rfl, rfl, rfl⟩ := hcs
    refine ⟨_, _, _, rfl, fun i hil => ?_⟩
    obtain ⟨cs', h1, h2⟩ := hi i (by rw [hmm]; simp only [if_true]; exact Nat.lt_of_lt_of_le hil hl)
    rw [cells_act] at h1
    obtain ⟨kd, sl, y, rfl, hw⟩ := act_cells h2
    obtain ⟨_, _, h3⟩ := World.cells?_some h1
    have k0 := h3 0 (by omega)
    have k1 := h3 1 (by omega)
    have k2 := h3 2 (by omega)
    obtain ⟨g, off, spot⟩ := a
    cases spot with
    | none => exact ⟨g, off, kd, sl, y, rfl, by simpa only [add_plain, List.getElem?_cons_zero, Nat.add_zero] using k0, by simpa only [add_plain, List.getElem?_cons_succ, List.getElem?_cons_zero] using k1, by simpa only [add_plain, List.getElem?_cons_succ, List.getElem?_cons_zero] using k2, hw⟩
    | some s =>
      exfalso
      obtain ⟨cs', h1, h2⟩ := hi 0 (by rw [hmm]; simp only [if_true]; exact Nat.lt_of_lt_of_le (Nat.lt_of_le_of_lt (Nat.zero_le _) hil) hl)
      rw [cells_act] at h1
      obtain ⟨_, _, _, rfl, _⟩ := act_cells h2
      obtain ⟨_, _, h3⟩ := World.cells?_some h1
      have k0 := h3 0 (by omega)
      rw [cell_spot _ _ rfl] at k0
      cases k0

theorem walk {W : World} (room : Int) (hr : (Lit.int .i64 room).wf = true) (v : Value) (hv : ∃ ao len cap, v = .slice ao len cap ∧ Cnt.ActsAt W ao len) :
    Calls Try.prog 4 #[.int .i64 room, v] W fun e w' => e = .returned (.bool true) ∧ Below W.heap.size W w' := by
  obtain ⟨ao, len, cap, rfl, ha⟩ := hv
  by_cases h : room < 1 ∨ 65536 < room
  · exact (Cnt.bad room h _ W).mono fun _ _ ⟨he, h⟩ => ⟨he, h.below (Nat.le_refl _) (fun _ h => h.elim)⟩
  · obtain ⟨n, rfl⟩ : ∃ n : Nat, room = n := ⟨room.toNat, by omega⟩
    exact (Cnt.good n (by omega) (by omega) ao len cap W ha).mono fun _ _ ⟨he, h⟩ => ⟨he, h.below (Nat.le_refl _) (fun _ h => h.elim)⟩

theorem own : ownKnob Try.prog.godebug = none := by kernel_rfl
theorem laidOut : laidOutB Try.prog = true := by kernel_rfl

set_option maxRecDepth 100000 in
theorem lifted (os : Os) (started : os.Started) (H : Type) (enc : TypeId × Value → H) :
    ReturnsInHanded {} Try.checked os 4 .any (Rows.slabCountsSpec.pre6 enc Try.prog Try.f4 Rows.slabCountsRow.domain false) (Rows.slabCountsSpec.post enc Try.prog Try.f4 false true false false) := by
  refine returnsInHanded_of_change (C := Try.checked) own started (by kernel_rfl) Try.func4
    (ChangeSpec.witness6 (enc := enc) (C := Try.checked) false ⟨#[], #[.int .i64 0, .slice none 0 0], []⟩ 8 (by kernel_rfl) (by kernel_rfl) (by kernel_rfl) (by kernel_rfl)) ?_
  intro W base args ds gs before hval0 hW hcnd _
  have hval : ∀ (j : Nat) t v, Try.f4.params[j]? = some t → args[j]? = some v → Value.okWide Try.prog W .any base t v := hval0
  have hW' := hW
  obtain ⟨p, q, hA0, hV, rfl, hfz, hnd⟩ := hW
  have hA : DataW.TrodAll enc Try.prog W 0 (fun _ => true) true Try.f4.params.toList args.toList ds p := hA0
  rw [Try.params4] at hA hval
  obtain ⟨v0, vs0, d0, ds0, p0, q0, hargs, rfl, rfl, h0, r0⟩ := trodAll_cons hA
  obtain ⟨v1, vs1, d1, ds1, p1, q1, rfl, rfl, rfl, h1, r1⟩ := trodAll_cons r0
  obtain ⟨rfl, rfl, rfl⟩ := trodAll_nil r1
  obtain rfl : args = #[v0, v1] := by cases args; simp_all
  obtain ⟨rfl, rfl⟩ := trodVars_none hV
  obtain ⟨a0, rfl, rfl, rfl, w0⟩ := open_int Try.underlying3 (hval 0 3 v0 rfl rfl) h0
  have k1 := h1
  have lt1 : ∀ x ∈ p1, x.block < W.heap.size := by obtain ⟨m, hm⟩ := k1; exact DataW.trod_lt m _ _ _ hm
  clear hA0 hval0
  refine (walk a0 w0 v1 (opened1 (hval 1 35 v1 rfl rfl) h1)).mono fun e W' ⟨he, bel⟩ => ?_
  subst he
  exact ⟨_, rfl, _, _, _, [], _, [], hW', trodAll_mk1 (shut_bool Try.underlying4 _), (trodAll_cons_mk (shut_int Try.underlying3 w0) (trodAll_cons_mk (Below.trod laidOut (by kernel_rfl) (of_decide_eq_true (by kernel_rfl)) k1 bel lt1) trodAll_mk0)), rfl, bel.frame _, fun h => by cases h⟩

theorem over : Rows.slabCountsRow.holds Try.pinned (OpenSpec.ofChange Rows.slabCountsSpec) :=
  OpenClaim.holds_of_wide 4 Try.f4 rfl rfl rfl rfl rfl rfl rfl ⟨rfl, rfl, rfl, rfl, rfl⟩ rfl rfl rfl rfl rfl (by kernel_rfl) Try.func4 (by kernel_rfl)
    (of_decide_eq_true (by kernel_rfl)) (by unfold Func.isWrapper; first | (rw [if_pos (by decide +kernel)]; kernel_rfl) | (rw [if_neg (by decide +kernel)]; exact ⟨rfl, rfl⟩))
    (fun os started H enc _ => lifted os started H enc)

theorem proved : Rows.SlabCountsSaid := over
#print axioms proved

end Go.Proofs.Ytdgdpbmaalcedaa.slabCounts
