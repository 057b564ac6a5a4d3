/- For every act the law SlabNone returns true. -/
import Derived.Test.YtdgdpbmaalcedaaNone6
import Derived.Test.YtdgdpbmaalcedaaRows
import Derived.ProofKit
import Derived.OpenShut
import Derived.ChangeOld
namespace Go.Proofs.Ytdgdpbmaalcedaa.slabNone
open Go.ChangeShapes Go.WideShapes Go.ChangeAt Go.RowKit
set_option linter.unusedVariables false

theorem three {α : Type} {l : List α} (h : l.length = 3) : ∃ a b c, l = [a, b, c] := by
  match l, h with
  | [a, b, c], _ => exact ⟨a, b, c, rfl⟩
theorem cells_act : Try.prog.cellsOf 40 = 3 := by kernel_rfl
theorem cells_int : Try.prog.cellsOf 3 = 1 := by kernel_rfl

set_option maxRecDepth 100000 in
/-- An act that was read is three numbers. -/
theorem act_cells {H : Type} {enc : TypeId × Value → H} {W : World} {base : Nat} {sp : Nat → Bool} {held : Bool} {n : Nat} {cs : List Value} {x : DataW H × List MemPlace}
    (h : DataW.trod enc Try.prog W base sp held n 40 cs = some x) : ∃ kd sl y, cs = [.int .i64 kd, .int .i64 sl, .int .i64 y] := by
  obtain ⟨xs, m, rfl, hx, hl, hxl, hf⟩ := DataW.trod_struct Try.underlying40 h
  rw [cells_act] at hl
  have hx3 : xs.length = 3 := hxl
  obtain ⟨c0, c1, c2, rfl⟩ := three hl
  obtain ⟨x0, x1, x2, rfl⟩ := three hx3
  have f0 : DataW.trod enc Try.prog W base sp held m 3 (List.take (Try.prog.cellsOf 3) [c0, c1, c2]) = some x0 := hf 0 ⟨ "Kind", 3, 0, false, "", "", 0⟩ rfl
  have f1 : DataW.trod enc Try.prog W base sp held m 3 (List.take (Try.prog.cellsOf 3) [c1, c2]) = some x1 := hf 1 ⟨ "Slot", 3, 1, false, "", "", 8⟩ rfl
  have f2 : DataW.trod enc Try.prog W base sp held m 3 (List.take (Try.prog.cellsOf 3) [c2]) = some x2 := hf 2 ⟨ "X", 3, 2, false, "", "", 16⟩ rfl
  rw [cells_int] at f0 f1 f2
  obtain ⟨n0, e0, _, _⟩ := DataW.trod_int Try.underlying3 (cs := [c0]) f0
  obtain ⟨n1, e1, _, w1⟩ := DataW.trod_int Try.underlying3 (cs := [c1]) f1
  obtain ⟨n2, e2, _, _⟩ := DataW.trod_int Try.underlying3 (cs := [c2]) f2
  cases e0; cases e1; cases e2
  exact ⟨_, _, _, rfl⟩

set_option maxRecDepth 100000 in
theorem opened0 {H : Type} {enc : TypeId × Value → H} {W : World} {base : Nat} {v : Value} {d : DataW H} {p : List MemPlace} (hv : Value.okWide Try.prog W .any base 40 v)
    (h : DataW.Trod enc Try.prog W 0 (fun _ => true) true 40 v d p) : ∃ kd sl y : Int, v = .agg #[.int .i64 kd, .int .i64 sl, .int .i64 y] := by
  obtain ⟨cs, rfl, hsz⟩ := okWide_struct Try.underlying40 hv
  obtain ⟨m, hm⟩ := h
  obtain ⟨kd, sl, y, e⟩ := act_cells hm
  refine ⟨kd, sl, y, ?_⟩
  have e' : cs.toList = [.int .i64 kd, .int .i64 sl, .int .i64 y] := e
  obtain ⟨l⟩ := cs
  simp only at e'
  rw [e']

set_option maxHeartbeats 800000 in
set_option maxRecDepth 100000 in
theorem walk (v : Value) (hv : ∃ kd sl y : Int, v = .agg #[.int .i64 kd, .int .i64 sl, .int .i64 y]) (w : World) :
    Calls Try.prog 6 #[v] w fun e w' => e = .returned (.bool true) ∧ Below w.heap.size w w' := by
  obtain ⟨kd, sl, x, rfl⟩ := hv
  go_enter Try.func6, Try.ntmps6
  go_wp2_with fail
  refine (none6 (.inl rfl) kd sl x).mono ?_; rintro e w1 ⟨rfl, h1⟩
  rw [World.size_alloc] at h1
  have hrow : w1.heap[w.heap.size]? = some (.cells #[.int .i64 kd, .int .i64 sl, .int .i64 x] 40 (0, 0)) := (h1.block _ (by omega)).trans (heap_alloc_new _ _)
  have e0 : w1.cell? ⟨w.heap.size, 0, none⟩ = some (.int .i64 kd) := row_cell hrow rfl
  have e1 : w1.cell? ⟨w.heap.size, 1, none⟩ = some (.int .i64 sl) := row_cell hrow rfl
  have e2 : w1.cell? ⟨w.heap.size, 2, none⟩ = some (.int .i64 x) := row_cell hrow rfl
  have hlt : w.heap.size < w1.heap.size := row_lt hrow
  have H1 := Lib.hid (((Below.refl w.heap.size w).alloc (Nat.le_refl _) (.cells #[.int .i64 kd, .int .i64 sl, .int .i64 x] 40)).trans (h1.mono (Nat.le_succ _)))
  clear hrow h1
  go_wp2_with fail
  refine (none6 (.inr ⟨w1.heap.size, rfl, row_cell (heap_alloc_new _ _) rfl⟩) kd sl x).mono ?_; rintro e w2 ⟨rfl, h2⟩
  rw [World.size_alloc] at h2
  have H2 := Lib.hid ((H1.out.alloc (Nat.le_of_lt hlt) (.cells #[.slice none 0 0, .slice none 0 0, .int .i64 0, .int .i64 0] 60)).trans (h2.mono (by omega)))
  clear h2 e0 e1 e2
  go_wp2_with fail
  refine (awake6 w2).mono ?_; rintro e w3 ⟨rfl, h3⟩
  have hs2 := H2.out.size
  go_wp2
  go_ret
  exact ⟨rfl, H2.out.trans (h3.below hs2 (fun _ h => h.elim))⟩

theorem own : ownKnob Try.prog.godebug = none := by kernel_rfl
theorem laidOut : laidOutB Try.prog = true := by kernel_rfl

set_option maxRecDepth 100000 in
theorem lifted (os : Os) (started : os.Started) (H : Type) (enc : TypeId × Value → H) :
    ReturnsInHanded {} Try.checked os 6 .any (Rows.slabNoneSpec.pre6 enc Try.prog Try.f6 Rows.slabNoneRow.domain false) (Rows.slabNoneSpec.post enc Try.prog Try.f6 false true false false) := by
  refine returnsInHanded_of_change (C := Try.checked) own started (by kernel_rfl) Try.func6
    (ChangeSpec.witness6 (enc := enc) (C := Try.checked) false ⟨#[], #[.agg #[.int .i64 0, .int .i64 0, .int .i64 0]], []⟩ 8 (by kernel_rfl) (by kernel_rfl) (by kernel_rfl) (by kernel_rfl)) ?_
  intro W base args ds gs before hval0 hW hcnd _
  have hval : ∀ (j : Nat) t v, Try.f6.params[j]? = some t → args[j]? = some v → Value.okWide Try.prog W .any base t v := hval0
  have hW' := hW
  obtain ⟨p, q, hA0, hV, rfl, hfz, hnd⟩ := hW
  have hA : DataW.TrodAll enc Try.prog W 0 (fun _ => true) true Try.f6.params.toList args.toList ds p := hA0
  rw [Try.params6] at hA hval
  obtain ⟨v0, vs0, d0, ds0, p0, q0, hargs, rfl, rfl, h0, r0⟩ := trodAll_cons hA
  obtain ⟨rfl, rfl, rfl⟩ := trodAll_nil r0
  obtain rfl : args = #[v0] := by cases args; simp_all
  obtain ⟨rfl, rfl⟩ := trodVars_none hV
  have k0 := h0
  have lt0 : ∀ x ∈ p0, x.block < W.heap.size := by obtain ⟨m, hm⟩ := k0; exact DataW.trod_lt m _ _ _ hm
  clear hA0 hval0
  refine (walk v0 (opened0 (hval 0 40 v0 rfl rfl) h0) W).mono fun e W' ⟨he, bel⟩ => ?_
  subst he
  exact ⟨_, rfl, _, _, _, [], _, [], hW', trodAll_mk1 (shut_bool Try.underlying4 _), (trodAll_cons_mk (Below.trod laidOut (by kernel_rfl) (of_decide_eq_true (by kernel_rfl)) k0 bel lt0) trodAll_mk0), rfl, bel.frame _, fun h => by cases h⟩

theorem over : Rows.slabNoneRow.holds Try.pinned (OpenSpec.ofChange Rows.slabNoneSpec) :=
  OpenClaim.holds_of_wide 6 Try.f6 rfl rfl rfl rfl rfl rfl rfl ⟨rfl, rfl, rfl, rfl, rfl⟩ rfl rfl rfl rfl rfl (by kernel_rfl) Try.func6 (by kernel_rfl)
    (of_decide_eq_true (by kernel_rfl)) (by unfold Func.isWrapper; first | (rw [if_pos (by decide +kernel)]; kernel_rfl) | (rw [if_neg (by decide +kernel)]; exact ⟨rfl, rfl⟩))
    (fun os started H enc _ => lifted os started H enc)

theorem proved : Rows.SlabNoneSaid := over
#print axioms proved

end Go.Proofs.Ytdgdpbmaalcedaa.slabNone
