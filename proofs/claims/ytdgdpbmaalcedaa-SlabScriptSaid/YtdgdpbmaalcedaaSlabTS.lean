/- The contracts of slab.Slab at one type of things, part three: Take. -/
import Derived.Test.YtdgdpbmaalcedaaSlabWS
namespace Go.Proofs.Ytdgdpbmaalcedaa.SlabS
open Go Go.RowKit
set_option maxHeartbeats 400000
set_option linter.unusedVariables false

theorem slot_info : ∃ i z, Try.prog.info? 100 = some i ∧ i.zero = some z ∧ i.size = 2 ∧ i.bytes ≤ 4096 ∧ z.cells.size = 2 := by
  obtain ⟨i, h1, h2⟩ := Option.map_eq_some_iff.1 (by kernel_rfl : (Try.prog.info? 100).map (fun i => (i.size, decide (i.bytes ≤ 4096), i.zero.map (fun z => z.cells.size))) = some (2, true, some 2))
  simp only [Prod.mk.injEq, Option.map_eq_some_iff, decide_eq_true_eq] at h2
  obtain ⟨h2, h3, z, h4, h5⟩ := h2
  exact ⟨i, z, h1, h4, h2, h3, h5⟩
theorem built_slot (v : Value) (hv : OkV v) (c : Int) : Try.prog.built 100 [(0, v), (1, .int .i64 c)] = some (v.cells ++ #[.int .i64 c]) := by
  obtain ⟨i, z, h1, h2, _, _, h3⟩ := slot_info
  exact built_pair h1 h2 Try.underlying100 (by kernel_rfl : _ = some [(0, 1), (1, 1)]) h3 v _ (okV.size v hv) rfl

theorem Take_full {w : World} {a : Nat} {F : Nat → Prop} {σ : SlabSt} (h : At OkV w a F σ) (x : Value) (hx : OkV x) (hu : σ.used = σ.room) :
    Calls Try.prog 14 #[.pointer (some ⟨a, 0, none⟩), x] w fun e w' => e = .returned (.tuple #[.int .i64 0, .int .i64 9]) ∧ Moved w w' a F σ := by
  have hr := h.1.room
  have h' := h
  obtain ⟨h0, vs, vf, h1, _⟩ := h'
  obtain ⟨c0, c1, c2, c3, fz, hlt⟩ := row4 h1
  have hus : (((σ.used : Nat) : Int) == ((σ.room : Nat) : Int)) = true := by simp [hu]
  clear hu h1 h0
  go_enter Try.func14, Try.ntmps14
  go_wp2_with (go_at_call 54; refine (none_no _ _ (σ.room : Int) (by go_simp) (by omega)).mono ?_; rintro e w1 ⟨rfl, rfl⟩)
  go_quiet (fail)
  go_wp2
  go_ret2
  have hc : Ch (fun _ => False) w (w.drewN nq) := (Ch.refl _ _).drewN _
  exact ⟨rfl, F, h.keep hc (fun _ _ h => h), hc.mono (fun _ _ h => h.elim), fun k hk => .inl hk⟩

set_option maxRecDepth 100000 in
theorem Take_reuse {w : World} {a : Nat} {F : Nat → Prop} {σ : SlabSt} (h : At OkV w a F σ) (x : Value) (hx : OkV x) (hu : σ.used ≠ σ.room) {fr : List Nat} {k : Nat} (hf : σ.free = fr ++ [k + 1]) :
    Calls Try.prog 14 #[.pointer (some ⟨a, 0, none⟩), x] w fun e w' => e = .returned (.tuple #[.int .i64 (k + 1), .int .i64 0]) ∧ Moved w w' a F { σ with slots := σ.slots.set k (x, 1), free := fr } := by
  have hr := h.1.room
  have hl := h.1.len
  have hwf := h.1
  obtain ⟨_, v0, hk0⟩ := hwf.free (k + 1) (by rw [hf]; simp)
  rw [show k + 1 - 1 = k by omega] at hk0
  have hfl := hwf.free_le
  obtain ⟨g, cap, cur, vf, e1, e2, b1, b2, b3, b4, hk, o1, f1, f2, f3, f4, f5, hc, ht⟩ := slot_mem okV h hk0
  have hfn : σ.free.length = fr.length + 1 := by rw [hf]; simp
  rw [hfn] at o1
  obtain ⟨f, fcap, curf, rfl, hF, q1, q2, q3, q4⟩ := owns_block o1 (by omega)
  obtain ⟨hf2, hfa, hgf⟩ := f4 f rfl
  have hfc : w.cell? ⟨f, fr.length, none⟩ = some (.int .i64 ((k : Int) + 1)) := row_cell hF (take_get q4 (by rw [hf]; simp))
  obtain ⟨d0, d1, d2, d3, fz, hlt⟩ := row4 e1
  have hlg := row_lt e2
  have hlf := row_lt hF
  have hag : a ≠ g := Ne.symm f3
  have haf : a ≠ f := Ne.symm hfa
  have hfg : f ≠ g := Ne.symm hgf
  have hszs : ∀ s ∈ σ.slots, s.1.cells.size = 1 := fun y hy => okV.size _ (hwf.things y hy)
  have hxs := okV.size x hx
  have hx1 := okV.one x hx
  have HW : Hid (SlabSt.WF OkV { σ with slots := σ.slots.set k (x, 1), free := fr }) := by have := hwf.reuse hf hx; exact this
  have hkk : k * 2 + 2 ≤ σ.slots.length * 2 := by have : (k + 1) * 2 ≤ σ.slots.length * 2 := Nat.mul_le_mul_right _ hk; omega
  have hkc : σ.slots.length * 2 ≤ cur.size := by rw [b3]; exact Nat.mul_le_mul_right _ b1
  obtain ⟨sc, hsc⟩ : ∃ sc, x.cells ++ #[Value.int .i64 1] = sc := ⟨_, rfl⟩
  have hcs : sc.size = 2 := by rw [← hsc]; simp [hxs]
  have hscl : sc.toList = x.cells.toList ++ [Value.int .i64 1] := by rw [← hsc]; simp
  obtain ⟨new, HN⟩ : ∃ new, Hid ((splice cur.toList (k * 2) sc.toList).toArray = new) := ⟨_, rfl⟩
  have HT : Hid (new.toList.take (σ.slots.length * 2) = SlabSt.flat (σ.slots.set k (x, 1))) := by
    show _ = _
    rw [← HN.out]
    have h1 := take_splice b4 hkc (off := k * 2) (v := sc.toList) (by rw [Array.length_toList, hcs]; omega)
    have h2 := SlabSt.flat_splice hszs hk (s := (x, 1)) hxs
    rw [← h2]
    rw [hscl] at h1 ⊢
    exact h1
  have HS : Hid (new.size = cur.size) := by
    show _ = _
    rw [← HN.out]
    have := splice_length cur.toList (k * 2) sc.toList (by rw [Array.length_toList, hcs, Array.length_toList]; omega)
    simpa using this
  have HFit : Hid (k * 2 + sc.size ≤ cur.size) := by show _ ≤ _; rw [hcs]; omega
  have HSz : Hid ((Try.prog.info? 100).map (·.size) = some sc.size) := by show _ = _; rw [slot_size, hcs]
  have H1 : Hid (∀ v ∈ sc.toList, v.oneCell' = true) := by
    intro v hv
    rw [hscl] at hv
    rcases List.mem_append.1 hv with hv | hv
    · exact hx1 v hv
    · simp at hv; subst hv; rfl
  have HBd : Hid (Try.prog.built 100 [(0, x), (1, .int .i64 1)] = some sc) := by show _ = _; rw [← hsc]; exact built_slot x hx 1
  have HQ : Hid (curf.toList.take (fr.length * 1) = fr.map fun n => Value.int .i64 (n : Nat)) := by
    show _ = _
    have := congrArg (List.take (fr.length * 1)) q4
    rw [List.take_take, Nat.min_eq_left (by omega), hf] at this
    rw [this]
    simp
  have hus : (((σ.used : Nat) : Int) == ((σ.room : Nat) : Int)) = false := by simp; omega
  have hub : σ.used ≤ 65535 := by simp [SlabSt.used] at hu ⊢; omega
  have hwk : IntKind.i64.wrap (k : Int) = k := IntWalk.i64_in _ (by omega)
  have hkb : (k : Int) ≤ 65535 := by omega
  have hfb : (fr.length : Int) ≤ 65535 := by omega
  have HUS : Hid (((σ.slots.set k (x, 1)).length - fr.length : Nat) = σ.used + 1) := by show _ = _; simp [SlabSt.used, hfn]; omega
  have E1 := Lib.hid e1
  have E2 := Lib.hid e2
  have EF := Lib.hid hF
  have F5 := Lib.hid f5
  have B3 := Lib.hid b3
  have Q3 := Lib.hid q3
  clear hsc hscl hcs
  clear f4 f5 o1 hc ht b4 e1 e2 hF hszs hkk hkc q4 hf hfn hu hwf h hk0 b3 q3 hx1
  clear hxs hx
  go_enter Try.func14, Try.ntmps14
  go_wp2_with (go_at_call 54; refine (none_no _ _ (σ.room : Int) (by go_simp) (by omega)).mono ?_; rintro e w1 ⟨rfl, rfl⟩)
  go_quiet (fail)
  go_wp2_with (first
        | (go_at_call 54; refine (none_no _ _ (σ.room : Int) (by go_simp) (by omega)).mono ?_; rintro e w1 ⟨rfl, rfl⟩)
        | (with_reducible show wpList _ _ _ (⟨_, .build 100 _, _, _, _, _⟩ :: _) _ _; refine wpList_build_two rfl 100 _ _ _ _ rfl x (.int .i64 1) rfl rfl _ HBd.out ?_)
        | (with_reducible show wpList _ _ _ (⟨_, .store 100 _ _, _, _, _, _⟩ :: _) _ _; refine wpList_store_part rfl 100 _ _ rfl g (k * 2) _ rfl rfl (row_set (row_set (row_drewN E2.out _) (by simpa using f3) _) (by simpa using f3) _) HSz.out HFit.out H1.out new HN.out ?_)
        )
  go_ret2
  have hA2 := row_setRow (row_set_same (row_set_same (row_drewN E1.out nq) 3 (.int .i64 ((σ.used : Int) + 1))) 1 (.slice (some ⟨f, 0, none⟩) fr.length fcap)) hag new
  have hG2 := row_setRow_same (row_set (p := ⟨a, 1, none⟩) (row_set (p := ⟨a, 3, none⟩) (row_drewN E2.out nq) f3 (.int .i64 ((σ.used : Int) + 1))) f3 (.slice (some ⟨f, 0, none⟩) fr.length fcap)) new
  have hF2 := row_setRow (row_set (p := ⟨a, 1, none⟩) (row_set (p := ⟨a, 3, none⟩) (row_drewN EF.out nq) hfa (.int .i64 ((σ.used : Int) + 1))) hfa (.slice (some ⟨f, 0, none⟩) fr.length fcap)) hfg new
  refine ⟨rfl, F, SlabAt.make HW.out hA2 rfl ?_ (by simp only [List.length_set]; exact owns_mk' hG2 b1 b2 (by rw [HS.out, B3.out]) HT.out) (owns_mk' hF2 (Nat.le_of_succ_le q1) q2 Q3.out HQ.out) f1 ?_ ?_ ?_, ?_, fun k hk => .inl hk⟩
  · have := HUS.out
    simp [SlabSt.used] at this ⊢
    omega
  · intro k hk
    simp only [Value.ownBlock, Option.some.injEq] at hk
    subst hk
    exact ⟨f2, f3⟩
  · intro k hk
    simp only [Value.ownBlock, Option.some.injEq] at hk
    subst hk
    exact ⟨hf2, hfa, fun e => by simp [Value.ownBlock] at e; exact hgf e⟩
  · intro k hk
    have := F5.out k hk
    simp
    omega
  · exact (((((Ch.refl F w).drewN _).setCell (p := ⟨a, 3, none⟩) (.inl f1) _).setCell (p := ⟨a, 1, none⟩) (.inl f1) _).setRow (.inl f2) _)

set_option maxRecDepth 100000 in
theorem Take_push {w : World} {a : Nat} {F : Nat → Prop} {σ : SlabSt} (h : At OkV w a F σ) (x : Value) (hx : OkV x) (hu : σ.used ≠ σ.room) (hf : σ.free = []) :
    Calls Try.prog 14 #[.pointer (some ⟨a, 0, none⟩), x] w fun e w' => e = .returned (.tuple #[.int .i64 (σ.slots.length + 1), .int .i64 0]) ∧ Moved w w' a F { σ with slots := σ.slots ++ [(x, 1)] } := by
  have hr := h.1.room
  have hl := h.1.len
  have hwf := h.1
  have hul : σ.used = σ.slots.length := by simp [SlabSt.used, hf]
  obtain ⟨h0, vs, vf, h1, h2, h3, h4, h5, h6, h7⟩ := h
  obtain ⟨ao, cap, rfl⟩ := owns_form h2
  have hfl : σ.free.length = 0 := by rw [hf]; rfl
  rw [hfl] at h3
  obtain ⟨af, capf, rfl⟩ := owns_form h3
  obtain ⟨d0, d1, d2, d3, fz, hlt⟩ := row4 h1
  have hxs := okV.size x hx
  have hx1 := okV.one x hx
  have HW : Hid (SlabSt.WF OkV { σ with slots := σ.slots ++ [(x, 1)] }) := hwf.push hf hu hx
  obtain ⟨sc, hsc⟩ : ∃ sc, x.cells ++ #[Value.int .i64 1] = sc := ⟨_, rfl⟩
  have hcs : sc.size = 2 := by rw [← hsc]; simp [hxs]
  have hscl : sc.toList = x.cells.toList ++ [Value.int .i64 1] := by rw [← hsc]; simp
  obtain ⟨i0, z0, hi0, hz0, hz1, hz2, hz3⟩ := slot_info
  have HI := Lib.hid hi0
  have HZ := Lib.hid hz0
  have HZ1 := Lib.hid hz1
  have HZ3 := Lib.hid hz3
  have HCS : Hid ((Value.agg sc).cells.size = i0.size) := by show _ = _; rw [hz1]; exact hcs
  have HSM : Hid (i0.size ≤ 65536 ∧ 0 < i0.size) := by show _ ∧ _; rw [hz1]; omega
  have HBY : Hid ((σ.slots.length + 1) * i0.bytes ≤ 140737488355328) := by
    show _ ≤ _
    have : (σ.slots.length + 1) * i0.bytes ≤ 65537 * 4096 := Nat.mul_le_mul (by omega) hz2
    omega
  have HL : Hid (sc.toList.length = 1 * 2) := by show _ = _; rw [Array.length_toList, hcs]
  have H1 : Hid (∀ v ∈ sc.toList, v.oneCell' = true) := by
    intro v hv
    rw [hscl] at hv
    rcases List.mem_append.1 hv with hv | hv
    · exact hx1 v hv
    · simp at hv; subst hv; rfl
  have HBd : Hid (Try.prog.built 100 [(0, x), (1, .int .i64 1)] = some sc) := by show _ = _; rw [← hsc]; exact built_slot x hx 1
  have HFL : Hid (SlabSt.flat σ.slots ++ sc.toList = SlabSt.flat (σ.slots ++ [(x, 1)])) := by show _ = _; rw [SlabSt.flat_append, hscl]; simp [SlabSt.flat]
  have hus : (((σ.used : Nat) : Int) == ((σ.room : Nat) : Int)) = false := by simp; omega
  have hub : σ.used ≤ 65535 := by omega
  have HUL := Lib.hid hul
  have E1 := Lib.hid h1
  have H2 := Lib.hid h2
  have H3 := Lib.hid h3
  have H5 := Lib.hid h5
  have H6 := Lib.hid h6
  have H7 := Lib.hid h7
  have HFr := Lib.hid hf
  clear h1 h2 h3 h5 h6 h7 h0 hsc hcs hscl hi0 hz0 hz1 hz2 hz3 hx1 hwf hf hfl hu hul
  clear hxs hx
  go_enter Try.func14, Try.ntmps14
  go_wp2_with (go_at_call 54; refine (none_no _ _ (σ.room : Int) (by go_simp) (by omega)).mono ?_; rintro e w1 ⟨rfl, rfl⟩)
  go_quiet (fail)
  go_wp2_with (first
        | (with_reducible show wpList _ _ _ (⟨_, .build 100 _, _, _, _, _⟩ :: _) _ _; refine wpList_build_two rfl 100 _ _ _ _ rfl x (.int .i64 1) rfl rfl _ HBd.out ?_)
        | (with_reducible show wpList _ _ _ (⟨_, .buildSlice 96 _ _, _, _, _, _⟩ :: _) _ _; refine wpList_buildSlice_one rfl 96 _ rfl 100 i0 z0 (.agg sc) rfl Try.underlying96 HI.out HZ.out HSM.out.1 HSM.out.2 HCS.out ?_)
        | (at_builtin; refine wpList_append_mine rfl _ _ 96 rfl 100 i0 z0 2 i0.bytes Try.underlying96 HI.out HZ.out HZ1.out rfl HZ3.out (by decide) (.slice ao σ.slots.length cap) σ.slots.length (SlabSt.flat σ.slots) rfl (((((Ch.refl (fun k => k = a) w).drewN nq).setCell (p := ⟨a, 3, none⟩) (.inl rfl) (.int .i64 ((σ.used : Int) + 1))).alloc _).owns H2.out (fun k hk e => (H5.out k hk).2 e)) _ 1 1 sc.toList rfl HL.out (row_news (cs := sc) (t := 100) (fr := (0, 0)) (heap_alloc_at _ _ _ (by simp))) H1.out (by unfold maxLen; omega) HBY.out ?_; intro v0 w1 own' grow' ob'; obtain ⟨ao', cap', rfl⟩ := owns_form own'; have CH := ((((Ch.refl (fun k => k = a) w).drewN nq).setCell (p := ⟨a, 3, none⟩) (.inl rfl) (.int .i64 ((σ.used : Int) + 1))).alloc (.cells sc 100)).mono (G := fun k => k = a ∨ (Value.slice ao σ.slots.length cap).ownBlock = some k) (fun _ _ h => .inl h) |>.grown grow' (fun k hk => .inl (.inr hk)); have hA1 : w1.heap[a]? = some (.cells #[.slice ao σ.slots.length cap, .slice af 0 capf, .int .i64 σ.room, .int .i64 ((σ.used : Int) + 1)] 98 (0, 0)) := (grow'.block a (by simp; omega) (fun e => (H5.out a e.symm).2 rfl)).trans (row_alloc (row_set_same (row_drewN E1.out _) 3 _) _); have hsz1 : w.heap.size + 1 ≤ w1.heap.size := (by have := grow'.size; simp at this; omega); have OB : Hid ((Value.slice ao' (σ.slots.length + 1) cap').ownBlock = (Value.slice ao σ.slots.length cap).ownBlock ∨ ∀ k, (Value.slice ao' (σ.slots.length + 1) cap').ownBlock = some k → w.heap.size ≤ k) := ob'.imp id (fun h k hk => (by have := h k hk; simp at this; omega)); obtain ⟨c0, c1, c2, c3, cfz, clt⟩ := row4 hA1; have A1 := Lib.hid hA1; have OW := Lib.hid own'; have CC := Lib.hid CH; clear hA1 own' CH grow' ob' d0 d1 d2 d3 fz hlt))
  go_ret2
  have hA2 := row_set_same A1.out 0 (.slice ao' (σ.slots.length + 1) cap')
  have hne : ∀ k, (Value.slice ao' (σ.slots.length + 1) cap').ownBlock = some k → k ≠ a ∧ (F k ∨ w.heap.size ≤ k) ∧ (Value.slice af 0 capf).ownBlock ≠ some k := fun k hk => by
    rcases OB.out with e | e
    · rw [e] at hk
      exact ⟨(H5.out k hk).2, .inl (H5.out k hk).1, fun h => (H6.out k h).2.2 hk⟩
    · have := e k hk
      have h1 := H7.out a h4
      exact ⟨by omega, .inr this, fun h => by have := H7.out k (H6.out k h).1; omega⟩
  refine ⟨rfl, fun k => F k ∨ (w.heap.size ≤ k ∧ k < w1.heap.size), SlabAt.make HW.out hA2 rfl ?_ ?_ ?_ (.inl h4) ?_ ?_ ?_, ?_, fun k hk => hk.imp id (fun h => h.1)⟩
  · have := HUL.out
    simp [SlabSt.used, HFr.out] at this ⊢
  · have := ((Ch.refl (fun k => k = a) w1).setCell (p := ⟨a, 0, none⟩) (.inl rfl) (.slice ao' (σ.slots.length + 1) cap')).owns OW.out (fun k hk e => (hne k hk).1 e)
    rw [HFL.out] at this
    simpa using this
  · have := (CC.out.setCell (p := ⟨a, 0, none⟩) (.inl (.inl rfl)) (.slice ao' (σ.slots.length + 1) cap')).owns H3.out (fun k hk e => e.elim (H6.out k hk).2.1 (H6.out k hk).2.2)
    rw [HFr.out] at this ⊢
    exact this
  · intro k hk
    obtain ⟨h1, h2, h3⟩ := hne k hk
    exact ⟨h2.imp id (fun h => ⟨h, (OW.out.lt k hk).2⟩), h1⟩
  · intro k hk
    obtain ⟨h1, h2, h3⟩ := H6.out k hk
    exact ⟨.inl h1, h2, fun e => (hne k e).2.2 hk⟩
  · intro k hk
    simp only [World.size_setCell]
    rcases hk with hk | hk
    · have := H7.out k hk
      omega
    · exact hk.2
  · refine ((CC.out).mono ?_).setCell (p := ⟨a, 0, none⟩) (.inl h4) _
    rintro k hk (rfl | h)
    · exact h4
    · exact (H5.out k h).1

theorem Take_ok {w : World} {a : Nat} {F : Nat → Prop} {σ : SlabSt} (h : At OkV w a F σ) (x : Value) (hx : OkV x) :
    Calls Try.prog 14 #[.pointer (some ⟨a, 0, none⟩), x] w fun e w' => e = .returned (.tuple #[.int .i64 (σ.take x).1, .int .i64 (σ.take x).2.1]) ∧ Moved w w' a F (σ.take x).2.2 := by
  by_cases hu : σ.used = σ.room
  · have : σ.take x = (0, 9, σ) := by simp [SlabSt.take, hu]
    rw [this]
    exact Take_full h x hx hu
  · cases hg : σ.free.getLast? with
    | none =>
      have : σ.take x = ((σ.slots.length : Int) + 1, 0, { σ with slots := σ.slots ++ [(x, 1)] }) := by simp [SlabSt.take, hu, hg]
      rw [this]
      exact Take_push h x hx hu (by simpa using hg)
    | some n =>
      have hn : σ.free = σ.free.dropLast ++ [n] := by
        obtain ⟨ys, hys⟩ := List.getLast?_eq_some_iff.1 hg
        rw [hys]; simp
      obtain ⟨h1, _⟩ := h.1.free n (by rw [hn]; simp)
      have : σ.take x = ((n : Int), 0, { σ with slots := σ.slots.set (n - 1) (x, 1), free := σ.free.dropLast }) := by simp [SlabSt.take, hu, hg]
      rw [this]
      obtain ⟨k, rfl⟩ : ∃ k, n = k + 1 := ⟨n - 1, by omega⟩
      rw [show (((k + 1 : Nat)) : Int) = (k : Int) + 1 by omega, show k + 1 - 1 = k by omega]
      exact Take_reuse h x hx hu hn

end Go.Proofs.Ytdgdpbmaalcedaa.SlabS
