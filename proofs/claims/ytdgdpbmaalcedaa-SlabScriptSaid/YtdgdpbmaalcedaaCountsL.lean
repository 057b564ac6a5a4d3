/- The law's own memory: the slab, its two maps, and the act of the round; and the laws on the maps' operations. -/
import Derived.Test.YtdgdpbmaalcedaaCountsM
import Derived.Test.YtdgdpbmaalcedaaSlabGA
import Derived.Maps.RangeWalk
import Derived.Maps.OwnSet
namespace Go.Proofs.Ytdgdpbmaalcedaa.Cnt
open Go Go.RowKit Go.Maps
set_option linter.unusedVariables false

noncomputable abbrev elemC : Value → Option (DataW Value × List MemPlace) := plainElem Try.prog 3
theorem law : Keyed Try.prog 3 := int_keyed Try.underlying3
theorem zeroI (w : World) : (zeroValue 3).run Try.prog w = .ok (.int .i64 0) w := by kernel_rfl
theorem zeroA (w : World) : (zeroValue 40).run Try.prog w = .ok (actV 0 0 0) w := by kernel_rfl
theorem act_ok (a b c : Int) : SlabA.OkV (actV a b c) := ⟨_, rfl, rfl, fun x hx => by simp at hx; rcases hx with rfl | rfl | rfl <;> rfl⟩

theorem cell_stays {F : Nat → Prop} {w w' : World} (h : Ch F w w') {p : Addr} {v : Value} (hc : w.cell? p = some v) (hn : ¬ F p.block) : w'.cell? p = some v := by
  have hlt : p.block < w.heap.size := by
    unfold World.cell? at hc
    cases hq : w.heap[p.block]? with
    | none => rw [hq] at hc; cases hc
    | some o => exact row_lt hq
  have := h.block p.block hlt hn
  unfold World.cell? at hc ⊢
  rw [this]
  exact hc
theorem map_of_block {H : Type} {k : TypeId} {R : Value → Option (DataW H × List MemPlace)} {w w' : World} {b n : Nat} {D : DataW H} (h : w.ownsMap Try.prog k R b n D) (e : w'.heap[b]? = w.heap[b]?) : w'.ownsMap Try.prog k R b n D := by
  obtain ⟨es, clock, hb, r⟩ := h
  exact ⟨es, clock, e.trans hb, r⟩

/-- 'w': the world that the law began in; 'a': the slab's block; C, T: the maps' blocks; L: rows of the law's own; F: the slab's blocks. -/
def MemF (w : World) (a C T k : Nat) (L : List (Nat × Array Value)) (wr : World) (σ : SlabSt) (Dc Dt : DataW Value) (F : Nat → Prop) : Prop :=
  SlabA.At SlabA.OkV wr a F σ ∧ (∀ j, F j → w.heap.size ≤ j) ∧ ¬ F C ∧ ¬ F T ∧ (∀ p ∈ L, wr.heap[p.1]? = some (.cells p.2 40 (0, 0)) ∧ ¬ F p.1 ∧ p.1 ≠ C ∧ p.1 ≠ T) ∧
    wr.ownsMap Try.prog 3 elemC C k Dc ∧ wr.ownsMap Try.prog 3 selfElem T k Dt ∧ w.heap.size ≤ C ∧ w.heap.size ≤ T ∧ C ≠ T ∧ SlabA.Adds w wr
def Mem (w : World) (a C T k : Nat) (L : List (Nat × Array Value)) (wr : World) (σ : SlabSt) (Dc Dt : DataW Value) : Prop := ∃ F, MemF w a C T k L wr σ Dc Dt F

variable {w : World} {a C T k : Nat} {L : List (Nat × Array Value)} {wr wr' : World} {σ σ' : SlabSt} {Dc Dt : DataW Value} {F : Nat → Prop}

theorem Mem.adds (h : Mem w a C T k L wr σ Dc Dt) : SlabA.Adds w wr := by obtain ⟨F, _, _, _, _, _, _, _, _, _, _, h⟩ := h; exact h
theorem Mem.wf (h : Mem w a C T k L wr σ Dc Dt) : σ.WF SlabA.OkV := by obtain ⟨F, h, _⟩ := h; exact h.1
theorem Mem.maps (h : Mem w a C T k L wr σ Dc Dt) : wr.ownsMap Try.prog 3 elemC C k Dc ∧ wr.ownsMap Try.prog 3 selfElem T k Dt := by obtain ⟨F, _, _, _, _, _, h1, h2, _⟩ := h; exact ⟨h1, h2⟩
theorem Mem.tidy (h : Mem w a C T k L wr σ Dc Dt) : Tidy Dc := h.maps.1.tidy law
theorem Mem.isMap (h : Mem w a C T k L wr σ Dc Dt) : IsMap Dt := h.maps.2.isMap
theorem Mem.row {g : Nat} {cs : Array Value} (h : Mem w a C T k [(g, cs)] wr σ Dc Dt) : wr.heap[g]? = some (.cells cs 40 (0, 0)) := by
  obtain ⟨F, _, _, _, _, h, _⟩ := h; exact (h _ (List.mem_singleton.2 rfl)).1
theorem Mem.bare (h : Mem w a C T k L wr σ Dc Dt) : Mem w a C T k [] wr σ Dc Dt := by
  obtain ⟨F, h1, h2, h3, h4, h5, h6⟩ := h
  exact ⟨F, h1, h2, h3, h4, fun p hp => (by cases hp), h6⟩
theorem Mem.mono (h : Mem w a C T k L wr σ Dc Dt) {k' : Nat} (hk : k ≤ k') : Mem w a C T k' L wr σ Dc Dt := by
  obtain ⟨F, h1, h2, h3, h4, h5, h6, h7, h8⟩ := h
  exact ⟨F, h1, h2, h3, h4, h5, h6.mono hk, h7.mono hk, h8⟩
theorem MemF.moved (h : MemF w a C T k L wr σ Dc Dt F) (hm : SlabA.Moved wr wr' a F σ') : Mem w a C T k L wr' σ' Dc Dt := by
  obtain ⟨h1, h2, h3, h4, h5, h6, h7, h8, h9, h10, h11⟩ := h
  obtain ⟨F', m1, m2, m3⟩ := hm
  have hC := h6.lt
  have hT := h7.lt
  refine ⟨F', m1, fun j hj => (m3 j hj).elim (h2 j) (fun h => Nat.le_trans h11.size h), fun hf => (m3 _ hf).elim h3 (by omega), fun hf => (m3 _ hf).elim h4 (by omega), fun p hp => ?_,
    map_of_block h6 (m2.block _ hC h3), map_of_block h7 (m2.block _ hT h4), h8, h9, h10, h11.trans m2 (fun j hj => .inr (h2 j hj))⟩
  obtain ⟨r1, r2, r3⟩ := h5 p hp
  have := row_lt r1
  exact ⟨m2.row r1 r2, fun hf => (m3 _ hf).elim r2 (by omega), r3⟩
theorem Mem.later (h : Mem w a C T k L wr σ Dc Dt) (ha : SlabA.Adds wr wr') : Mem w a C T k L wr' σ Dc Dt := by
  obtain ⟨F, h⟩ := h
  exact h.moved ⟨F, h.1.keep ha (fun _ _ h => h), ha.mono (fun _ _ h => h.elim), fun _ h => .inl h⟩
/-- A new row. -/
theorem Mem.withRow (h : Mem w a C T k [] wr σ Dc Dt) (ha : SlabA.Adds wr wr') {g : Nat} {cs : Array Value} (hg : wr'.heap[g]? = some (.cells cs 40 (0, 0))) (hn : wr.heap.size ≤ g) :
    Mem w a C T k [(g, cs)] wr' σ Dc Dt := by
  obtain ⟨F, h1, h2, h3, h4, h5, h6, h7, h8, h9, h10, h11⟩ := h
  have hC := h6.lt
  have hT := h7.lt
  have hlt : ∀ j, F j → j < wr.heap.size := by
    obtain ⟨_, _, _, _, _, _, _, _, _, h⟩ := h1
    exact h
  refine ⟨F, h1.keep ha (fun _ _ h => h), h2, h3, h4, fun p hp => ?_, map_of_block h6 (ha.block _ hC id), map_of_block h7 (ha.block _ hT id), h8, h9, h10, h11.trans ha (fun _ h => h.elim)⟩
  obtain rfl := List.mem_singleton.1 hp
  exact ⟨hg, fun hf => by have := hlt _ hf; simp only at this; omega, by simp only; omega, by simp only; omega⟩
/-- The counts' map is another. -/
theorem Mem.turnC (h : Mem w a C T k L wr σ Dc Dt) {k' : Nat} (hk : k ≤ k') {D' : DataW Value} (hg : wr.grownBy wr' (some C)) (ho : wr'.ownsMap Try.prog 3 elemC C k' D') : Mem w a C T k' L wr' σ D' Dt := by
  obtain ⟨F, h1, h2, h3, h4, h5, h6, h7, h8, h9, h10, h11⟩ := h
  have hc : Ch (fun j => j = C) wr wr' := (Ch.refl _ _).grown hg (fun j hj => .inl (by cases hj; rfl))
  refine ⟨F, h1.keep hc (fun j hj e => h3 (e ▸ hj)), h2, h3, h4, fun p hp => ?_, ho, (map_of_block h7 (hc.block _ h7.lt (fun e => h10 e.symm))).mono hk, h8, h9, h10, h11.trans hc (fun j hj => .inr (hj ▸ h8))⟩
  obtain ⟨r1, r2, r3, r4⟩ := h5 p hp
  exact ⟨hc.row r1 r3, r2, r3, r4⟩
theorem Mem.turnT (h : Mem w a C T k L wr σ Dc Dt) {k' : Nat} (hk : k ≤ k') {D' : DataW Value} (hg : wr.grownBy wr' (some T)) (ho : wr'.ownsMap Try.prog 3 selfElem T k' D') : Mem w a C T k' L wr' σ Dc D' := by
  obtain ⟨F, h1, h2, h3, h4, h5, h6, h7, h8, h9, h10, h11⟩ := h
  have hc : Ch (fun j => j = T) wr wr' := (Ch.refl _ _).grown hg (fun j hj => .inl (by cases hj; rfl))
  refine ⟨F, h1.keep hc (fun j hj e => h4 (e ▸ hj)), h2, h3, h4, fun p hp => ?_, (map_of_block h6 (hc.block _ h6.lt h10)).mono hk, ho, h8, h9, h10, h11.trans hc (fun j hj => .inr (hj ▸ h9))⟩
  obtain ⟨r1, r2, r3, r4⟩ := h5 p hp
  exact ⟨hc.row r1 r4, r2, r3, r4⟩

/-! ### the slab's calls -/
theorem Take_mem (h : Mem w a C T k L wr σ Dc Dt) (x : Value) (hx : SlabA.OkV x) :
    Calls Try.prog 18 #[.pointer (some ⟨a, 0, none⟩), x] wr fun e w' => e = .returned (.tuple #[.int .i64 (σ.take x).1, .int .i64 (σ.take x).2.1]) ∧ Mem w a C T k L w' (σ.take x).2.2 Dc Dt := by
  obtain ⟨F, h⟩ := h
  exact (SlabA.Take_ok h.1 x hx).mono fun e w' ⟨he, hm⟩ => ⟨he, h.moved hm⟩
theorem Hold_mem (h : Mem w a C T k L wr σ Dc Dt) (n : Int) :
    Calls Try.prog 19 #[.pointer (some ⟨a, 0, none⟩), .int .i64 n] wr fun e w' => e = .returned (.int .i64 (σ.hold n).1) ∧ Mem w a C T k L w' (σ.hold n).2 Dc Dt := by
  obtain ⟨F, h⟩ := h
  exact (SlabA.Hold_ok h.1 n).mono fun e w' ⟨he, hm⟩ => ⟨he, h.moved hm⟩
theorem Drop_mem (h : Mem w a C T k L wr σ Dc Dt) (n : Int) :
    Calls Try.prog 20 #[.pointer (some ⟨a, 0, none⟩), .int .i64 n] wr fun e w' => e = .returned (.tuple #[.bool (σ.drop SlabA.zero n).1, .int .i64 (σ.drop SlabA.zero n).2.1]) ∧ Mem w a C T k L w' (σ.drop SlabA.zero n).2.2 Dc Dt := by
  obtain ⟨F, h⟩ := h
  exact (SlabA.Drop_ok h.1 n).mono fun e w' ⟨he, hm⟩ => ⟨he, h.moved hm⟩
theorem Get_mem (h : Mem w a C T k L wr σ Dc Dt) (n : Int) :
    Calls Try.prog 23 #[.pointer (some ⟨a, 0, none⟩), .int .i64 n] wr fun e w' => e = .returned (.tuple #[SlabA.got σ n, .int .i64 (SlabA.gotErr σ n)]) ∧ SlabA.Adds wr w' := by
  obtain ⟨F, h⟩ := h
  exact SlabA.Get_ok h.1 n
theorem Len_mem (h : Mem w a C T k L wr σ Dc Dt) :
    Calls Try.prog 21 #[.pointer (some ⟨a, 0, none⟩)] wr fun e w' => e = .returned (.int .i64 σ.used) ∧ wr = w' := by
  obtain ⟨F, h⟩ := h
  exact SlabA.Len_ok h.1
theorem Count_mem (h : Mem w a C T k L wr σ Dc Dt) (n : Int) :
    Calls Try.prog 22 #[.pointer (some ⟨a, 0, none⟩), .int .i64 n] wr fun e w' => e = .returned (.int .i64 (σ.count n)) ∧ wr = w' := by
  obtain ⟨F, h⟩ := h
  exact SlabA.Count_ok h.1 n

/-! ### the maps' operations -/
theorem lookC {σ1 : SlabSt} {Dt1 : DataW Value} (h : Mem w a C T k L wr σ1 Dc Dt1) {k' : Nat} (ht : Tied σ Dc Dt k') {n : Int} (hn : (Lit.int .i64 n).wf = true) :
    (Instr.lookup 42 (.map (some C)) (.int .i64 n) false).run Try.prog wr = .ok (.int .i64 (σ.count n)) wr := by
  obtain ⟨c, hr, hc, _⟩ := h.maps.1.lookup_int law Try.underlying42 Try.underlying3 (zeroI wr) (keyOf_int_mk Try.underlying3 hn)
  have := ht.cnt n
  rw [show num 0 = .lit (.int .i64 0) from rfl, show ky n = .int .i64 n from rfl, hc] at this
  simp only [num, DataW.lit.injEq, Lit.int.injEq, true_and] at this
  rw [hr, this]
theorem lookT {σ1 : SlabSt} {Dc1 : DataW Value} (h : Mem w a C T k L wr σ1 Dc1 Dt) {k' : Nat} (ht : Tied σ Dc Dt k') {n : Int} {s : Value × Nat} (hs : σ.get? n = some s) (hn : (Lit.int .i64 n).wf = true) :
    (Instr.lookup 41 (.map (some T)) (.int .i64 n) false).run Try.prog wr = .ok s.1 wr := by
  obtain ⟨v, ps, hr, hv⟩ := h.maps.2.lookup law Try.underlying41 (zeroA wr) (zd := .held (actV 0 0 0)) (zp := []) rfl (keyOf_int_mk Try.underlying3 hn)
  have := ht.thing n s (.held (actV 0 0 0)) hs
  rw [show ky n = .int .i64 n from rfl] at this
  simp only [selfElem, Option.some.injEq, Prod.mk.injEq] at hv
  rw [this] at hv
  have e := hv.1
  cases e
  exact hr
theorem lenC {σ1 : SlabSt} {Dt1 : DataW Value} (h : Mem w a C T k L wr σ1 Dc Dt1) {k' : Nat} (ht : Tied σ Dc Dt k') (ty : TypeId) : (Builtin.len_ #[42] ty #[.map (some C)]).run Try.prog wr = .ok (.int .i64 σ.used) wr := by
  rw [h.maps.1.len Try.underlying42 ty, ht.size]

/-! ### what the calls answer where the maps are tied -/
theorem Take_full_mem (h : Mem w a C T k L wr σ Dc Dt) (x : Value) (hx : SlabA.OkV x) (hu : σ.used = σ.room) :
    Calls Try.prog 18 #[.pointer (some ⟨a, 0, none⟩), x] wr fun e w' => e = .returned (.tuple #[.int .i64 0, .int .i64 9]) ∧ Mem w a C T k L w' σ Dc Dt := by
  have := Take_mem h x hx
  rwa [SlabSt.take_full x hu] at this
theorem Take_new (h : Mem w a C T k L wr σ Dc Dt) {k' : Nat} (ht : Tied σ Dc Dt k') (p q r : Int) (hu : σ.used ≠ σ.room) : ∃ (s : Nat) (σ' : SlabSt), σ.get? s = none ∧ 1 ≤ s ∧ s ≤ σ.room ∧ σ'.room = σ.room ∧
    Tied σ' (Dc.put (ky s) (num 1)) (Dt.put (ky s) (.held (actV p q r))) (k' + 1) ∧
    Calls Try.prog 18 #[.pointer (some ⟨a, 0, none⟩), actV p q r] wr fun e w' => e = .returned (.tuple #[.int .i64 s, .int .i64 0]) ∧ Mem w a C T k L w' σ' Dc Dt := by
  obtain ⟨t0, t1, t2, t3, t4, t5⟩ := SlabSt.take_ok h.wf (actV p q r) hu
  obtain ⟨s, hs⟩ : ∃ s : Nat, (σ.take (actV p q r)).1 = s := ⟨(σ.take (actV p q r)).1.toNat, by omega⟩
  have ht' := ht.take h.wf h.tidy h.isMap (actV p q r) ⟨_, _, _, rfl⟩ hu
  have hc := Take_mem h (actV p q r) (act_ok p q r)
  rw [hs] at t1 t2 t3 ht' hc
  rw [t0] at hc
  exact ⟨s, _, t3, by omega, by omega, SlabSt.take_room _ _, ht', hc⟩
theorem Hold_no (h : Mem w a C T k L wr σ Dc Dt) {n : Int} (hs : σ.get? n = none) :
    Calls Try.prog 19 #[.pointer (some ⟨a, 0, none⟩), .int .i64 n] wr fun e w' => e = .returned (.int .i64 7) ∧ Mem w a C T k L w' σ Dc Dt := by
  have := Hold_mem h n
  rwa [SlabSt.hold_none hs] at this
theorem Hold_yes (h : Mem w a C T k L wr σ Dc Dt) {k' : Nat} (ht : Tied σ Dc Dt k') (hk : k' ≤ 400) {n : Int} {s : Value × Nat} (hs : σ.get? n = some s) : ∃ σ', σ'.room = σ.room ∧ Tied σ' (Dc.put (ky n) (num (s.2 + 1 : Nat))) Dt (k' + 1) ∧
    Calls Try.prog 19 #[.pointer (some ⟨a, 0, none⟩), .int .i64 n] wr fun e w' => e = .returned (.int .i64 0) ∧ Mem w a C T k L w' σ' Dc Dt := by
  obtain ⟨t1, t2⟩ := ht.hold h.tidy hk n hs
  have := Hold_mem h n
  rw [t1] at this
  exact ⟨σ.setAt n _, rfl, t2, this⟩
theorem Drop_no (h : Mem w a C T k L wr σ Dc Dt) {n : Int} (hs : σ.get? n = none) :
    Calls Try.prog 20 #[.pointer (some ⟨a, 0, none⟩), .int .i64 n] wr fun e w' => e = .returned (.tuple #[.bool false, .int .i64 7]) ∧ Mem w a C T k L w' σ Dc Dt := by
  have := Drop_mem h n
  rwa [SlabSt.drop_none _ hs] at this
theorem Drop_keep (h : Mem w a C T k L wr σ Dc Dt) {k' : Nat} (ht : Tied σ Dc Dt k') {n : Int} {s : Value × Nat} (hs : σ.get? n = some s) (h1 : s.2 ≠ 1) : ∃ σ', σ'.room = σ.room ∧ Tied σ' (Dc.put (ky n) (num (s.2 - 1 : Nat))) Dt (k' + 1) ∧
    Calls Try.prog 20 #[.pointer (some ⟨a, 0, none⟩), .int .i64 n] wr fun e w' => e = .returned (.tuple #[.bool false, .int .i64 0]) ∧ Mem w a C T k L w' σ' Dc Dt := by
  obtain ⟨t1, t2⟩ := ht.keep h.tidy SlabA.zero n hs h1
  have := Drop_mem h n
  rw [t1] at this
  exact ⟨σ.setAt n _, rfl, t2, this⟩
theorem Drop_free (h : Mem w a C T k L wr σ Dc Dt) {k' : Nat} (ht : Tied σ Dc Dt k') {n : Int} {s : Value × Nat} (hs : σ.get? n = some s) (h1 : s.2 = 1) : ∃ σ', σ'.room = σ.room ∧ Tied σ' (Dc.del (ky n)) Dt (k' + 1) ∧
    Calls Try.prog 20 #[.pointer (some ⟨a, 0, none⟩), .int .i64 n] wr fun e w' => e = .returned (.tuple #[.bool true, .int .i64 0]) ∧ Mem w a C T k L w' σ' Dc Dt := by
  obtain ⟨t1, t2, t3⟩ := ht.letGo h.wf h.tidy SlabA.zero n hs h1
  have := Drop_mem h n
  rw [t1, t2] at this
  exact ⟨_, SlabSt.drop_room _ _ _, t3, this⟩

section
variable {ops : Array Oper} {rest : List Oper} {o : Oper} {A : Act} {Q : Exit → Act → World → Prop}
theorem wp_putC (h : Mem w a C T k L wr σ Dc Dt) (hk : k < 1000) (hg : o.guard = none) (m x v : Operand) (hop : o.op = Op.mapUpdate 42 m x v) (hm : A.eval m = .map (some C)) (n c : Int) (hx : A.eval x = .int .i64 n) (hv : A.eval v = .int .i64 c)
    (hn : (Lit.int .i64 n).wf = true) (hc : (Lit.int .i64 c).wf = true) (hK : ∀ w', Mem w a C T (k + 1) L w' σ (Dc.put (ky n) (num c)) Dt → wpList Try.prog ops Q rest (A.put o.dst undef) w') : wpList Try.prog ops Q (o :: rest) A wr :=
  wpList_mapUpdate_own wr hg m x v 42 hop 3 3 law Try.underlying42 elemC C k Dc hm h.maps.1 (by unfold maxLen; omega) _ _ (ky n) hx hv (keyOf_int_mk Try.underlying3 hn) (num c) [] (plainElem_int Try.underlying3 hc)
    fun w' h1 h2 => hK w' (h.turnC (Nat.le_succ k) h2 h1)
theorem wp_putT (h : Mem w a C T k L wr σ Dc Dt) (hk : k < 1000) (hg : o.guard = none) (m x v : Operand) (hop : o.op = Op.mapUpdate 41 m x v) (hm : A.eval m = .map (some T)) (n : Int) (c : Value) (hx : A.eval x = .int .i64 n) (hv : A.eval v = c)
    (hn : (Lit.int .i64 n).wf = true) (hK : ∀ w', Mem w a C T (k + 1) L w' σ Dc (Dt.put (ky n) (.held c)) → wpList Try.prog ops Q rest (A.put o.dst undef) w') : wpList Try.prog ops Q (o :: rest) A wr :=
  wpList_mapUpdate_own wr hg m x v 41 hop 3 40 law Try.underlying41 selfElem T k Dt hm h.maps.2 (by unfold maxLen; omega) _ _ (ky n) hx hv (keyOf_int_mk Try.underlying3 hn) (.held c) [] rfl
    fun w' h1 h2 => hK w' (h.turnT (Nat.le_succ k) h2 h1)
theorem wp_delC (h : Mem w a C T k L wr σ Dc Dt) (hg : o.guard = none) (m x : Operand) (hop : o.op = Op.call { callee := Callee.builtin Builtin.delete, args := #[m, x], argTypes := #[42, 3] }) (hm : A.eval m = .map (some C)) (n : Int) (hx : A.eval x = .int .i64 n)
    (hn : (Lit.int .i64 n).wf = true) (hK : ∀ w', Mem w a C T k L w' σ (Dc.del (ky n)) Dt → wpList Try.prog ops Q rest (A.put o.dst (.tuple #[])) w') : wpList Try.prog ops Q (o :: rest) A wr :=
  wpList_delete_own wr hg m x 42 3 hop 3 law Try.underlying42 elemC C k Dc hm h.maps.1 _ (ky n) hx (keyOf_int_mk Try.underlying3 hn)
    fun w' h1 h2 => hK w' (h.turnC (Nat.le_refl k) h2.grown h1)
end

end Go.Proofs.Ytdgdpbmaalcedaa.Cnt
