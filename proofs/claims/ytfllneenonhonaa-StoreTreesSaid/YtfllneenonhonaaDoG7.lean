/- Layer 7's statements: one call of one store, what it keeps. -/
import Derived.Test.YtfllneenonhonaaAct7
import Derived.Test.YtfllneenonhonaaStoreP1
namespace Go.Proofs.Ytfllneenonhonaa.Law7
open Go Go.RowKit Go.Proofs.Ytfllneenonhonaa Go.Proofs.Ytfllneenonhonaa.ShaW Go.Proofs.Ytfllneenonhonaa.Path Go.Proofs.Ytfllneenonhonaa.Store Go.Deep
set_option maxHeartbeats 1600000
set_option linter.unusedVariables false

section
variable {σ : SlabSt Nd} {rm : Nat}
theorem room_take (x : Nd) : (σ.take x).2.2.room = σ.room := by
  unfold SlabSt.take
  split
  · rfl
  · cases σ.free.getLast? with
    | none => rfl
    | some n => simp
theorem room_leafS (key value : List UInt8) (v : Value) : (leafS σ key value v).2.2.room = σ.room := by
  unfold leafS
  split
  · rfl
  · exact room_take _
theorem room_innerS (d l r : Int) : (innerS σ d l r).2.2.room = σ.room := by
  unfold innerS
  split
  · rfl
  · split
    · rfl
    · split
      · rfl
      · split
        · rfl
        · simp only
          rw [room_bump, room_bump]
          exact room_take _
theorem room_holdS (n : Int) : (holdS σ n).2.room = σ.room := by
  unfold holdS
  split
  · simp only
    rw [room_bump]
    unfold SlabSt.hold
    cases σ.get? n with
    | none => rfl
    | some x =>
      simp only
      split <;> rfl
  · rfl
theorem room_dropS (h : Int) : (dropS σ h).2.2.room = σ.room := by
  unfold dropS
  split
  · simp only
    rw [room_sweep, room_bump]
  · rfl
/-- A good store of so much room. -/
structure Fine (rm : Nat) (σ : SlabSt Nd) : Prop where
  good : Store.Good σ
  room : σ.room = rm
theorem Fine.leaf (h : Fine rm σ) (key value : List UInt8) (v : Value) (hk : key.length = 32) : Fine rm (leafS σ key value v).2.2 := ⟨h.good.leaf key value v hk, (room_leafS key value v).trans h.room⟩
theorem Fine.inner (h : Fine rm σ) (d l r : Int) : Fine rm (innerS σ d l r).2.2 := ⟨h.good.inner d l r, (room_innerS d l r).trans h.room⟩
theorem Fine.hold (h : Fine rm σ) (n : Int) : Fine rm (holdS σ n).2 := ⟨h.good.hold n, (room_holdS n).trans h.room⟩
theorem Fine.drop (h : Fine rm σ) (n : Int) : Fine rm (dropS σ n).2.2 := ⟨h.good.drop n, (room_dropS n).trans h.room⟩
end
set_option maxRecDepth 100000 in
theorem doG_ok {w : World} {s : Nat} {F : Nat → Prop} {σ : SlabSt Nd} (h : At w s F σ) {rm : Nat} (hs : Fine rm σ) (x : Act7) (hx : x.Good w) :
    Calls Try.prog 24 #[.pointer (some ⟨s, 0, none⟩), .agg x.cells] w fun e w' => (∃ v, e = .returned v) ∧ ∃ σ', Moved w w' s F σ' ∧ Fine rm σ' := by
  have hk := hx.key
  have q0 := Act7.at_kind (x := x)
  have q1 := Act7.at_key hk
  have q2 := Act7.at_val hk
  have q3 := Act7.at_d hk
  have q4 := Act7.at_a hk
  have q5 := Act7.at_b hk
  have qs := Act7.size hk
  have hb := hx.val
  have hv := hx.blk
  obtain ⟨kind, key, vv, val, d, a, b⟩ := x
  simp only at hk q0 q1 q2 q3 q4 q5 hb hv
  obtain ⟨ao, cap, rfl, _, _⟩ := hb.form
  obtain ⟨C, hC⟩ : ∃ C, C = Act7.cells ⟨kind, key, .slice ao val.length cap, val, d, a, b⟩ := ⟨_, rfl⟩
  rw [← hC] at q0 q1 q2 q3 q4 q5 qs ⊢
  clear hC hx
  obtain ⟨K, hK⟩ : ∃ K, K = brow key := ⟨_, rfl⟩
  rw [← hK] at q1
  have hr := heap_alloc_new w (.cells C 62)
  have c0 := row_cell hr q0
  have c2 := row_cell hr q2
  have c3 := row_cell hr q3
  have c4 := row_cell hr q4
  have c5 := row_cell hr q5
  have hF : ∀ k, F k → k < w.heap.size := by obtain ⟨_, _, _, _, _, _, _, q6⟩ := h; exact q6
  have hw1 : Adds w (w.alloc (.cells C 62)) := (Ch.refl _ _).alloc _
  have h1 := h.adds hw1
  have hb1 := hb.keepw hw1 (fun _ _ _ h => h)
  have H1 := Lib.hid (And.intro h1 (And.intro hs (And.intro hb1 hv)))
  have HW := Lib.hid (And.intro hw1 hF)
  have HQ := Lib.hid (And.intro qs (And.intro q1 (And.intro hr hk)))
  have HK := Lib.hid hK
  clear h hs hb hv hF hr qs q0 q1 q2 q3 q4 q5 hw1 h1 hb1 hk hK
  by_cases hk0 : kind = 0
  · subst hk0
    go_enter Try.func24, Try.ntmps24
    have hl : Calls Try.prog 58 #[.pointer (some ⟨s, 0, none⟩), .agg K, .slice ao val.length cap] (w.alloc (.cells C 62)) fun e w' => ∃ v, e = .returned (.tuple #[.int .i64 (leafS σ key val v).1, .int .i64 (leafS σ key val v).2.1]) ∧ Moved (w.alloc (.cells C 62)) w' s F (leafS σ key val v).2.2 := by
      have := Leaf_ok H1.out.1 key HQ.out.2.2.2 H1.out.2.2.1 (fun h0 k hk => by have := H1.out.2.2.2 h0 k hk; simp; omega)
      rw [← HK.out] at this
      exact this
    have HL := Lib.hid hl
    clear hl
    go_wp2_with (first
      | ((with_reducible show wpList _ _ _ (⟨_, .load 23 _, _, _, _, _⟩ :: _) _ _); refine wpList_load_part rfl 23 _ rfl w.heap.size 1 rfl HQ.out.2.2.1 Try.underlying23 rfl sizeP (by rw [HQ.out.1]; omega) K HQ.out.2.1 ?_))
    refine HL.out.mono ?_; rintro e wi ⟨v, rfl, hi⟩
    have HI := Lib.hid (And.intro (Moved.from HW.out.1 hi (fun k hk => .inl hk)) (Fine.leaf H1.out.2.1 key val v HQ.out.2.2.2))
    clear hi
    go_wp2
    go_end0
    exact ⟨⟨_, rfl⟩, _, HI.out⟩
  · by_cases hk1 : kind = 1
    · subst hk1
      go_enter Try.func24, Try.ntmps24
      go_wp2_with fail
      refine (Inner_ok H1.out.1 d a b).mono ?_; rintro e wi ⟨rfl, hi⟩
      have HI := Lib.hid (And.intro (Moved.from HW.out.1 hi (fun k hk => .inl hk)) (Fine.inner H1.out.2.1 d a b))
      clear hi
      go_wp2
      go_end0
      exact ⟨⟨_, rfl⟩, _, HI.out⟩
    · by_cases hk2 : kind = 2
      · subst hk2
        go_enter Try.func24, Try.ntmps24
        go_wp2_with fail
        refine (Hold_ok H1.out.1 a).mono ?_; rintro e wi ⟨rfl, hi⟩
        have HI := Lib.hid (And.intro (Moved.from HW.out.1 hi (fun k hk => .inl hk)) (Fine.hold H1.out.2.1 a))
        clear hi
        go_wp2
        go_end0
        exact ⟨⟨_, rfl⟩, _, HI.out⟩
      · by_cases hk3 : kind = 3
        · subst hk3
          go_enter Try.func24, Try.ntmps24
          go_wp2_with fail
          refine (Drop_ok H1.out.1 a).mono ?_; rintro e wi ⟨rfl, hi⟩
          have HI := Lib.hid (And.intro (Moved.from HW.out.1 hi (fun k hk => .inl hk)) (Fine.drop H1.out.2.1 a))
          clear hi
          go_wp2
          go_end0
          exact ⟨⟨_, rfl⟩, _, HI.out⟩
        · by_cases hk5 : kind = 5
          · subst hk5
            go_enter Try.func24, Try.ntmps24
            go_wp2_with fail
            refine (Hold_ok H1.out.1 a).mono ?_; rintro e w2 ⟨rfl, h2⟩
            have hs2 := Fine.hold H1.out.2.1 a
            obtain ⟨σ2, hσ2⟩ : ∃ σ2, σ2 = (holdS σ a).2 := ⟨_, rfl⟩
            rw [← hσ2] at h2 hs2
            obtain ⟨F2, a2, m2, n2⟩ := h2
            have k2 := (HW.out.1.mono (G := F) (fun _ _ h => h.elim)).trans m2 (fun k hk => .inl hk)
            have f2 : ∀ k, F2 k → F k ∨ w.heap.size ≤ k := fun k hk => (n2 k hk).imp id (fun h => by simp at h; omega)
            have hr2 := m2.row HQ.out.2.2.1 (fun hf => absurd (HW.out.2 _ hf) (Nat.lt_irrefl _))
            have hb2 : ¬ F2 w.heap.size := fun hf => (n2 _ hf).elim (fun h => absurd (HW.out.2 _ h) (Nat.lt_irrefl _)) (fun h => by simp at h; omega)
            have d5 := m2.cell c5 (fun hf => absurd (HW.out.2 _ hf) (Nat.lt_irrefl _))
            have d4 := m2.cell c4 (fun hf => absurd (HW.out.2 _ hf) (Nat.lt_irrefl _))
            have d3 := m2.cell c3 (fun hf => absurd (HW.out.2 _ hf) (Nat.lt_irrefl _))
            have H2 := Lib.hid (And.intro a2 (And.intro k2 (And.intro f2 (And.intro hs2 hb2))))
            clear a2 k2 f2 hs2 hb2 hr2 m2 n2 c0 c2 c3 c4 c5 hσ2
            go_wp2_with fail
            refine (Hold_ok H2.out.1 b).mono ?_; rintro e w3 ⟨rfl, h3⟩
            have hs3 := Fine.hold H2.out.2.2.2.1 b
            obtain ⟨σ3, hσ3⟩ : ∃ σ3, σ3 = (holdS σ2 b).2 := ⟨_, rfl⟩
            rw [← hσ3] at h3 hs3
            have h3' := h3
            obtain ⟨F3, a3, k3, f3⟩ := Moved.cons H2.out.2.1 H2.out.2.2.1 h3
            obtain ⟨_, _, m3, _⟩ := h3'
            have g5 := m3.cell d5 H2.out.2.2.2.2
            have g4 := m3.cell d4 H2.out.2.2.2.2
            have g3 := m3.cell d3 H2.out.2.2.2.2
            have H3 := Lib.hid (And.intro a3 (And.intro k3 (And.intro f3 hs3)))
            clear a3 k3 f3 hs3 h3 m3 d3 d4 d5 hσ3
            go_wp2_with fail
            refine (Inner_ok H3.out.1 d a b).mono ?_; rintro e wi ⟨rfl, hi⟩
            have HI := Lib.hid (And.intro (Moved.cons H3.out.2.1 H3.out.2.2.1 hi) (Fine.inner H3.out.2.2.2 d a b))
            clear hi
            go_wp2
            go_end0
            exact ⟨⟨_, rfl⟩, _, HI.out⟩
          · go_enter Try.func24, Try.ntmps24
            go_wp2
            go_end0
            exact ⟨⟨_, rfl⟩, _, Moved.from HW.out.1 (Moved.same H1.out.1 (Ch.refl _ _)) (fun k hk => .inl hk), H1.out.2.1⟩

end Go.Proofs.Ytfllneenonhonaa.Law7
