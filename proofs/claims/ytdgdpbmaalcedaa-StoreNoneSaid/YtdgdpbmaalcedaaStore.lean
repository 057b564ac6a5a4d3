/- The contracts of store.Store, part one: in memory; what only looks. -/
import Derived.Test.YtdgdpbmaalcedaaStoreM
namespace Go.Proofs.Ytdgdpbmaalcedaa.Store
open Go Go.RowKit Go.Proofs.Ytdgdpbmaalcedaa
set_option maxHeartbeats 1600000
set_option linter.unusedVariables false

/-- The store at block 's', with its blocks 'F'. -/
def At (w : World) (s : Nat) (F : Nat → Prop) (σ : SlabSt Nd) : Prop :=
  ∃ a G, w.heap[s]? = some (.cells #[.pointer (some ⟨a, 0, none⟩)] 87 (0, 0)) ∧ SlabN.At SlabN.OkV w a G (σ.map Nd.enc) ∧
    (∀ (m : Nat) (n : Nd) (c : Nat), σ.slots[m]? = some (n, c) → n.Ok ∧ Bytes w n.addr n.value ∧ ∀ k, n.addr.ownBlock = some k → F k ∧ k ≠ s ∧ ¬ G k) ∧
    F s ∧ (∀ k, G k → F k ∧ k ≠ s) ∧ (∀ k, F k → k < w.heap.size)

abbrev Adds (w w' : World) : Prop := Ch (fun _ => False) w w'
/-- The store is now so; nothing else that was there has changed. -/
def Moved (w w' : World) (s : Nat) (F : Nat → Prop) (σ : SlabSt Nd) : Prop := ∃ F', At w' s F' σ ∧ Ch F w w' ∧ ∀ k, F' k → F k ∨ w.heap.size ≤ k

theorem At.keep {w w' : World} {s : Nat} {F C : Nat → Prop} {σ : SlabSt Nd} (h : At w s F σ) (hc : Ch C w w') (hd : ∀ k, F k → ¬ C k) : At w' s F σ := by
  obtain ⟨a, G, h1, h2, h3, h4, h5, h6⟩ := h
  exact ⟨a, G, hc.row h1 (hd s h4), h2.keep hc (fun k hk => hd k (h5 k hk).1), fun m n c hs => ⟨(h3 m n c hs).1, (h3 m n c hs).2.1.keep hc (fun k hk => hd k ((h3 m n c hs).2.2 k hk).1), (h3 m n c hs).2.2⟩, h4, h5, fun k hk => Nat.lt_of_lt_of_le (h6 k hk) hc.size⟩
theorem At.adds {w w' : World} {s : Nat} {F : Nat → Prop} {σ : SlabSt Nd} (h : At w s F σ) (hc : Adds w w') : At w' s F σ := h.keep hc (fun _ _ h => h)
theorem Moved.same {w w' : World} {s : Nat} {F : Nat → Prop} {σ : SlabSt Nd} (h : At w s F σ) (hc : Adds w w') : Moved w w' s F σ :=
  ⟨F, h.adds hc, hc.mono (fun _ _ h => h.elim), fun k hk => .inl hk⟩
theorem At.wf {w : World} {s : Nat} {F : Nat → Prop} {σ : SlabSt Nd} (h : At w s F σ) : (σ.map Nd.enc).WF SlabN.OkV := by
  obtain ⟨a, G, h1, h2, _⟩ := h
  exact h2.1
theorem At.room {w : World} {s : Nat} {F : Nat → Prop} {σ : SlabSt Nd} (h : At w s F σ) : 1 ≤ σ.room ∧ σ.room ≤ 65536 := h.wf.room
theorem At.len {w : World} {s : Nat} {F : Nat → Prop} {σ : SlabSt Nd} (h : At w s F σ) : σ.slots.length ≤ σ.room := by
  have := h.wf.len
  simpa [SlabSt.map] using this
theorem At.node {w : World} {s : Nat} {F : Nat → Prop} {σ : SlabSt Nd} (h : At w s F σ) {n : Int} {x : Nd × Nat} (hx : σ.get? n = some x) : x.1.Ok ∧ Bytes w x.1.addr x.1.value ∧ ∀ k, x.1.addr.ownBlock = some k → F k := by
  obtain ⟨a, G, h1, h2, h3, _⟩ := h
  obtain ⟨m, _, hs, _, _⟩ := SlabSt.get?_some hx
  obtain ⟨n, c⟩ := x
  exact ⟨(h3 m n c hs).1, (h3 m n c hs).2.1, fun k hk => ((h3 m n c hs).2.2 k hk).1⟩

/-- A handle's node; zero of what is no node's. -/
def nd (σ : SlabSt Nd) (h : Int) : Nd := ((σ.get? h).map (·.1)).getD Nd.zero
def has (σ : SlabSt Nd) (h : Int) : Bool := (σ.get? h).isSome
theorem At.ok {w : World} {s : Nat} {F : Nat → Prop} {σ : SlabSt Nd} (h : At w s F σ) (n : Int) : (nd σ n).Ok := by
  unfold nd
  cases hs : σ.get? n with
  | none => exact Nd.zero_ok
  | some x => exact (h.node hs).1

theorem At.bytes {w : World} {s : Nat} {F : Nat → Prop} {σ : SlabSt Nd} (h : At w s F σ) (n : Int) : Bytes w (nd σ n).addr (nd σ n).value := by
  unfold nd
  cases hs : σ.get? n with
  | none => exact Bytes.nil w
  | some x => exact (h.node hs).2.1
theorem Moved.from {w0 w w' : World} {s : Nat} {F F' : Nat → Prop} {σ : SlabSt Nd} (ha : Adds w0 w) (hm : Moved w w' s F' σ) (hF : ∀ k, F' k → F k ∨ w0.heap.size ≤ k) : Moved w0 w' s F σ := by
  obtain ⟨F2, h1, h2, h3⟩ := hm
  exact ⟨F2, h1, (ha.mono (G := F) (fun _ _ h => h.elim)).trans h2 hF, fun k hk => (h3 k hk).elim (hF k) (fun h => .inr (Nat.le_trans ha.size h))⟩
theorem Moved.then {w w1 w2 : World} {s : Nat} {F : Nat → Prop} {σ σ' : SlabSt Nd} (h : Moved w w1 s F σ) (hs : ∀ F1, At w1 s F1 σ → Moved w1 w2 s F1 σ') : Moved w w2 s F σ' := by
  obtain ⟨F1, h1, h2, h3⟩ := h
  obtain ⟨F2, g1, g2, g3⟩ := hs F1 h1
  exact ⟨F2, g1, h2.trans g2 h3, fun k hk => (g3 k hk).elim (h3 k) (fun h => .inr (Nat.le_trans h2.size h))⟩
/-- A step of the slab is a step of the store. -/
theorem lift {w w' : World} {s a : Nat} {F G : Nat → Prop} {σ' : SlabSt Nd} (h1 : w.heap[s]? = some (.cells #[.pointer (some ⟨a, 0, none⟩)] 87 (0, 0)))
    (h4 : F s) (h5 : ∀ k, G k → F k ∧ k ≠ s) (h6 : ∀ k, F k → k < w.heap.size) (hm : SlabN.Moved w w' a G (σ'.map Nd.enc))
    (hn : ∀ (m : Nat) (n : Nd) (c : Nat), σ'.slots[m]? = some (n, c) → n.Ok ∧ Bytes w n.addr n.value ∧ ∀ k, n.addr.ownBlock = some k → F k ∧ k ≠ s ∧ ¬ G k) : Moved w w' s F σ' := by
  obtain ⟨G', g1, g2, g3⟩ := hm
  have hsz := g2.size
  refine ⟨fun k => F k ∨ (w.heap.size ≤ k ∧ k < w'.heap.size), ⟨a, G', g2.row h1 (fun h => (h5 s h).2 rfl), g1, fun m n c hs => ?_, .inl h4, fun k hk => ?_, fun k hk => ?_⟩, g2.mono (fun k _ hk => (h5 k hk).1), fun k hk => hk.imp id (fun h => h.1)⟩
  · obtain ⟨q1, q2, q3⟩ := hn m n c hs
    refine ⟨q1, q2.keep g2 (fun k hk => (q3 k hk).2.2), fun k hk => ⟨.inl (q3 k hk).1, (q3 k hk).2.1, fun hg => ?_⟩⟩
    rcases g3 k hg with h | h
    · exact (q3 k hk).2.2 h
    · have := h6 k (q3 k hk).1; omega
  · have hlt : k < w'.heap.size := by
      obtain ⟨_, _, _, _, _, _, _, _, _, hall⟩ := g1
      exact hall k hk
    rcases g3 k hk with h | h
    · exact ⟨.inl (h5 k h).1, (h5 k h).2⟩
    · exact ⟨.inr ⟨h, hlt⟩, fun e => by have := h6 s h4; omega⟩
  · rcases hk with h | h
    · exact Nat.lt_of_lt_of_le (h6 k h) hsz
    · exact h.2

theorem none_no {w : World} {s a : Nat} (h : w.heap[s]? = some (.cells #[.pointer (some ⟨a, 0, none⟩)] 87 (0, 0))) :
    Calls Try.prog 81 #[.pointer (some ⟨s, 0, none⟩)] w fun e w' => e = .returned (.bool false) ∧ w = w' := by
  have c0 := row_cell h (i := 0) rfl
  clear h
  go_enter Try.func81, Try.ntmps81
  go_wp2
  go_ret
  exact ⟨rfl, rfl⟩

theorem zeroN : (Try.prog.info? 124).bind (·.zero) = some (.agg Nd.zero.cells) := by kernel_rfl
theorem sizeN : (Try.prog.info? 124).map (·.size) = some 103 := by kernel_rfl

theorem get_ok {w : World} {s : Nat} {F : Nat → Prop} {σ : SlabSt Nd} (h : At w s F σ) (n : Int) :
    Calls Try.prog 83 #[.pointer (some ⟨s, 0, none⟩), .int .i64 n] w fun e w' => e = .returned (.tuple #[.agg (nd σ n).cells, .bool (has σ n)]) ∧ Adds w w' := by
  have hok := h.ok n
  obtain ⟨a, G, h1, h2, h3, h4, h5, h6⟩ := h
  have hg := SlabN.Get_ok h2 n
  have e1 : SlabN.got (σ.map Nd.enc) n = .agg (nd σ n).cells := by
    unfold SlabN.got nd
    rw [SlabSt.map_get?]
    cases σ.get? n with
    | none => exact Nd.zero_enc
    | some x => rfl
  have e2 : SlabN.gotErr (σ.map Nd.enc) n = if has σ n then 0 else 7 := by
    unfold SlabN.gotErr has
    rw [SlabSt.map_get?]
    cases σ.get? n <;> rfl
  rw [e1, e2] at hg
  obtain ⟨N, hN⟩ : ∃ N, N = (nd σ n).cells := ⟨_, rfl⟩
  have hNs : N.size = 103 := by rw [hN]; exact Nd.cells_size hok
  have hN1 : ∀ v ∈ N.toList, v.oneCell' = true := by rw [hN]; exact Nd.cells_one hok
  obtain ⟨Z, hZ⟩ : ∃ Z, Z = Nd.zero.cells := ⟨_, rfl⟩
  have hz := zeroN
  have hZs : Z.size = 103 := by rw [hZ]; rfl
  rw [← hZ] at hz
  rw [← hN] at hg ⊢
  obtain ⟨b, hb⟩ : ∃ b, b = has σ n := ⟨_, rfl⟩
  rw [← hb] at hg ⊢
  have hrow : (w.alloc (.cells Z 124)).heap[s]? = some (.cells #[.pointer (some ⟨a, 0, none⟩)] 87 (0, 0)) := row_alloc h1 _
  have hcall := SlabN.Get_ok (h2.keep ((Ch.refl (fun _ => False) w).alloc (.cells Z 124)) (fun _ _ h => h)) n
  rw [e1, e2, ← hN, ← hb] at hcall
  have HR := Lib.hid hrow
  have HC := Lib.hid hcall
  have HN := Lib.hid (And.intro hNs hN1)
  have HZ := Lib.hid (And.intro hz hZs)
  have c0 := row_cell hrow (i := 0) rfl
  clear h1 h2 h3 h4 h5 h6 hg e1 e2 hN hNs hN1 hZ hz hZs hb hrow hcall hok
  cases b
  all_goals
    go_enter Try.func83, Try.ntmps83
    go_wp2_with (first | ((with_reducible show wpList _ _ _ (⟨_, .alloc 124, _, _, _, _⟩ :: _) _ _); refine wpList_alloc_is rfl 124 rfl (.agg Z) HZ.out.1 ?_; dsimp only [Value.cells]; try simp only [World.size_alloc]))
    refine (none_no HR.out).mono ?_; rintro e w1 ⟨rfl, rfl⟩
    go_wp2_with fail
    refine HC.out.mono ?_; rintro e w2 ⟨rfl, hc2⟩
    have hz2 := hc2.row (heap_alloc_new w (.cells Z 124)) id
    have hw2 := ((Ch.refl (fun _ => False) w).alloc (.cells Z 124)).trans hc2 (fun _ h => h.elim)
    have hlt := row_lt hz2
    have Z2 := Lib.hid hz2
    have W2 := Lib.hid hw2
    clear hc2 hz2 hw2
    go_wp2_with (first
      | ((with_reducible show wpList _ _ _ (⟨_, .alloc 124, _, _, _, _⟩ :: _) _ _); refine wpList_alloc_is rfl 124 rfl (.agg Z) HZ.out.1 ?_; dsimp only [Value.cells]; try simp only [World.size_alloc])
      | ((with_reducible show wpList _ _ _ (⟨_, .store 124 (.tmp 6) _, _, _, _, _⟩ :: _) _ _); go_must (refine wpList_store_part rfl 124 _ _ rfl w2.heap.size 0 N rfl rfl (heap_alloc_new _ _) (by rw [sizeN, HN.out.1]) (by rw [HN.out.1, HZ.out.2]; omega) HN.out.2 N (by rw [splice_all _ _ (by rw [Array.length_toList, Array.length_toList, HN.out.1, HZ.out.2])]) ?_))
      | ((with_reducible show wpList _ _ _ (⟨_, .load 124 _, _, _, _, _⟩ :: _) _ _); refine wpList_load_part rfl 124 _ rfl w2.heap.size 0 rfl (row_setRow_same (heap_alloc_new _ _) _) Try.underlying124 rfl sizeN (by rw [HN.out.1]; omega) N (by simp [← HN.out.1]) ?_)
      | ((with_reducible show wpList _ _ _ (⟨_, .store 124 (.tmp 4) _, _, _, _, _⟩ :: _) _ _); go_must (refine wpList_store_part rfl 124 _ _ rfl w.heap.size 0 N rfl rfl (row_setRow (row_alloc Z2.out _) (by omega) _) (by rw [sizeN, HN.out.1]) (by rw [HN.out.1, HZ.out.2]; omega) HN.out.2 N (by rw [splice_all _ _ (by rw [Array.length_toList, Array.length_toList, HN.out.1, HZ.out.2])]) ?_)))
    have hws := W2.out.size
    exact bodyPost_ret_cell (p := 4) (u := 5) rfl rfl (row_setRow_same (row_setRow (row_alloc Z2.out _) (by omega) _) _) Try.underlying124 rfl (by rw [sizeN, HN.out.1]) rfl ⟨rfl, ((W2.out.alloc _).setRow (.inr hws) _).setRow (.inr (Nat.le_refl _)) _⟩

end Go.Proofs.Ytdgdpbmaalcedaa.Store
