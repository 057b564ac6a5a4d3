/- The slab, plainly: slots with counts, a stack of free slots; and what it is in memory ('SlabAt'). -/
import Derived.Test.YtdgdpbmaalcedaaLaws
namespace Go.Proofs.Ytdgdpbmaalcedaa
open Go Go.RowKit

structure SlabSt (α : Type := Value) where
  room : Nat
  slots : List (α × Nat)
  free : List Nat

theorem nodup_length_le : ∀ (l m : List Nat), l.Nodup → (∀ x ∈ l, x ∈ m) → l.length ≤ m.length
  | [], _, _, _ => by simp
  | x :: l, m, hn, hs => by
    have hx : x ∈ m := hs x (List.mem_cons_self ..)
    have ih := nodup_length_le l (m.erase x) (List.nodup_cons.1 hn).2 (fun y hy => by
      have hne : y ≠ x := fun e => (List.nodup_cons.1 hn).1 (e ▸ hy)
      exact (List.mem_erase_of_ne hne).2 (hs y (List.mem_cons_of_mem _ hy)))
    have := List.length_erase_of_mem hx
    have : 0 < m.length := List.length_pos_of_mem hx
    simp only [List.length_cons]
    omega

namespace SlabSt
def used {α : Type} (σ : SlabSt α) : Nat := σ.slots.length - σ.free.length
def flat (l : List (Value × Nat)) : List Value := l.flatMap fun s => s.1.cells.toList ++ [.int .i64 s.2]
def get? {α : Type} (σ : SlabSt α) (n : Int) : Option (α × Nat) := if 1 ≤ n then (σ.slots[(n - 1).toNat]?).filter (fun s => s.2 != 0) else none
def count {α : Type} (σ : SlabSt α) (n : Int) : Nat := ((σ.get? n).map (·.2)).getD 0
def setAt {α : Type} (σ : SlabSt α) (n : Int) (s : α × Nat) : SlabSt α := { σ with slots := σ.slots.set (n - 1).toNat s }
def take {α : Type} (σ : SlabSt α) (x : α) : Int × Int × SlabSt α :=
  if σ.used = σ.room then (0, 9, σ) else
  match σ.free.getLast? with
  | some n => (n, 0, { σ with slots := σ.slots.set (n - 1) (x, 1), free := σ.free.dropLast })
  | none => (σ.slots.length + 1, 0, { σ with slots := σ.slots ++ [(x, 1)] })
def hold {α : Type} (σ : SlabSt α) (n : Int) : Int × SlabSt α :=
  match σ.get? n with
  | none => (7, σ)
  | some s => if s.2 = 1073741824 then (4, σ) else (0, σ.setAt n (s.1, s.2 + 1))
def drop {α : Type} (z : α) (σ : SlabSt α) (n : Int) : Bool × Int × SlabSt α :=
  match σ.get? n with
  | none => (false, 7, σ)
  | some s => if s.2 = 1 then (true, 0, { σ.setAt n (z, 0) with free := σ.free ++ [n.toNat] }) else (false, 0, σ.setAt n (s.1, s.2 - 1))
def set {α : Type} (σ : SlabSt α) (n : Int) (x : α) : Int × SlabSt α :=
  match σ.get? n with
  | none => (7, σ)
  | some s => (0, σ.setAt n (x, s.2))

/-- What a slab's state is at every time. 'ok': what things may be. -/
structure WF {α : Type} (ok : α → Prop) (σ : SlabSt α) : Prop where
  room : 1 ≤ σ.room ∧ σ.room ≤ 65536
  len : σ.slots.length ≤ σ.room
  things : ∀ s ∈ σ.slots, ok s.1
  counts : ∀ s ∈ σ.slots, s.2 ≤ 1073741824
  nodup : σ.free.Nodup
  free : ∀ n ∈ σ.free, 1 ≤ n ∧ ∃ v, σ.slots[n - 1]? = some (v, 0)
  freed : ∀ i v, σ.slots[i]? = some (v, 0) → i + 1 ∈ σ.free

theorem get?_some {α : Type} {σ : SlabSt α} {n : Int} {s : α × Nat} (h : σ.get? n = some s) : ∃ m : Nat, n = m + 1 ∧ σ.slots[m]? = some s ∧ s.2 ≠ 0 ∧ m < σ.slots.length := by
  unfold get? at h
  split at h
  · rename_i h1
    obtain ⟨h2, h3⟩ := Option.filter_eq_some_iff.1 h
    exact ⟨(n - 1).toNat, by omega, h2, by simpa using h3, (List.getElem?_eq_some_iff.1 h2).1⟩
  · cases h
theorem get?_of {α : Type} {σ : SlabSt α} {m : Nat} {s : α × Nat} (h : σ.slots[m]? = some s) (h0 : s.2 ≠ 0) : σ.get? (m + 1) = some s := by
  unfold get?
  rw [if_pos (by omega), show ((m : Int) + 1 - 1).toNat = m by omega, h]
  simp [Option.filter, h0]
theorem get?_none {α : Type} {σ : SlabSt α} {n : Int} (h : σ.get? n = none) : n < 1 ∨ ∃ m : Nat, n = m + 1 ∧ (σ.slots.length ≤ m ∨ ∃ v, σ.slots[m]? = some (v, 0)) := by
  unfold get? at h
  split at h
  · rename_i h1
    refine .inr ⟨(n - 1).toNat, by omega, ?_⟩
    cases hs : σ.slots[(n - 1).toNat]? with
    | none => exact .inl (by simpa using hs)
    | some s =>
      rw [hs] at h
      simp [Option.filter] at h
      exact .inr ⟨s.1, by rw [← h]⟩
  · exact .inl (by omega)

theorem WF.free_le {α : Type} {ok : α → Prop} {σ : SlabSt α} (h : σ.WF ok) : σ.free.length ≤ σ.slots.length := by
  have h1 : ∀ n ∈ σ.free, n ∈ List.range' 1 σ.slots.length := by
    intro n hn
    obtain ⟨h1, v, hv⟩ := h.free n hn
    have := (List.getElem?_eq_some_iff.1 hv).1
    simp only [List.mem_range'_1]
    omega
  simpa using nodup_length_le _ _ h.nodup h1

theorem WF.free_lt {α : Type} {ok : α → Prop} {σ : SlabSt α} (h : σ.WF ok) {m : Nat} {s : α × Nat} (hs : σ.slots[m]? = some s) (h0 : s.2 ≠ 0) : σ.free.length < σ.slots.length := by
  have hm := (List.getElem?_eq_some_iff.1 hs).1
  have h1 : ∀ n ∈ (m + 1) :: σ.free, n ∈ List.range' 1 σ.slots.length := by
    intro n hn
    rcases List.mem_cons.1 hn with rfl | hn
    · simp only [List.mem_range'_1]; omega
    · obtain ⟨h1, v, hv⟩ := h.free n hn
      have := (List.getElem?_eq_some_iff.1 hv).1
      simp only [List.mem_range'_1]
      omega
  have h2 : ((m + 1) :: σ.free).Nodup := List.nodup_cons.2 ⟨fun hn => by
    obtain ⟨h1, v, hv⟩ := h.free _ hn
    rw [show m + 1 - 1 = m by omega, hs] at hv
    cases hv
    exact h0 rfl, h.nodup⟩
  have := nodup_length_le _ _ h2 h1
  simp at this
  omega

theorem flat_length {sz : Nat} : ∀ (l : List (Value × Nat)), (∀ s ∈ l, s.1.cells.size = sz) → (flat l).length = l.length * (sz + 1)
  | [], _ => by simp [flat]
  | s :: l, h => by
    have ih := flat_length l (fun s hs => h s (List.mem_cons_of_mem _ hs))
    have h0 := h s (List.mem_cons_self ..)
    have e : flat (s :: l) = (s.1.cells.toList ++ [.int .i64 s.2]) ++ flat l := by simp [flat]
    rw [e]
    simp only [List.length_append, ih, List.length_cons, List.length_nil, Array.length_toList, h0, Nat.add_mul]
    omega
theorem flat_append (l m : List (Value × Nat)) : flat (l ++ m) = flat l ++ flat m := by simp [flat]
theorem flat_split (l : List (Value × Nat)) (i : Nat) (s : Value × Nat) (hi : l[i]? = some s) :
    flat l = flat (l.take i) ++ (s.1.cells.toList ++ [.int .i64 s.2]) ++ flat (l.drop (i + 1)) := by
  obtain ⟨hlt, he⟩ := List.getElem?_eq_some_iff.1 hi
  conv => lhs; rw [← List.take_append_drop i l, List.drop_eq_getElem_cons hlt, he]
  simp [flat]
theorem flat_set (l : List (Value × Nat)) (i : Nat) (s : Value × Nat) (hi : i < l.length) :
    flat (l.set i s) = flat (l.take i) ++ (s.1.cells.toList ++ [.int .i64 s.2]) ++ flat (l.drop (i + 1)) := by
  rw [flat_split (l.set i s) i s (by simp [hi])]
  rw [List.take_set_of_le (by omega)]
  simp [List.drop_set]

theorem flat_take_length {sz : Nat} {l : List (Value × Nat)} (h : ∀ s ∈ l, s.1.cells.size = sz) {i : Nat} (hi : i ≤ l.length) : (flat (l.take i)).length = i * (sz + 1) := by
  rw [flat_length (sz := sz) _ (fun s hs => h s (List.mem_of_mem_take hs))]
  simp [Nat.min_eq_left hi]

/-- The count's cell. -/
theorem flat_count {sz : Nat} {l : List (Value × Nat)} (h : ∀ s ∈ l, s.1.cells.size = sz) {i : Nat} {s : Value × Nat} (hi : l[i]? = some s) : (flat l)[i * (sz + 1) + sz]? = some (.int .i64 s.2) := by
  have hlt := (List.getElem?_eq_some_iff.1 hi).1
  have hs : s.1.cells.size = sz := h s (List.mem_of_getElem? hi)
  rw [flat_split l i s hi, List.append_assoc, List.getElem?_append_right (by rw [flat_take_length h (by omega)]; omega), flat_take_length h (by omega)]
  rw [show i * (sz + 1) + sz - i * (sz + 1) = sz by omega, List.append_assoc, List.getElem?_append_right (by simp [hs])]
  simp [hs]
/-- The thing's cells. -/
theorem flat_thing {sz : Nat} {l : List (Value × Nat)} (h : ∀ s ∈ l, s.1.cells.size = sz) {i : Nat} {s : Value × Nat} (hi : l[i]? = some s) : ((flat l).drop (i * (sz + 1))).take sz = s.1.cells.toList := by
  have hlt := (List.getElem?_eq_some_iff.1 hi).1
  have hs : s.1.cells.size = sz := h s (List.mem_of_getElem? hi)
  rw [flat_split l i s hi, List.append_assoc, List.drop_append_of_le_length (by rw [flat_take_length h (by omega)]; omega)]
  rw [List.drop_eq_nil_of_le (by rw [flat_take_length h (by omega)]; omega), List.nil_append, List.append_assoc, List.take_append_of_le_length (by simp [hs])]
  rw [List.take_of_length_le (by simp [hs])]
/-- A slot written over, whole or from a place within on. -/
theorem flat_splice {sz : Nat} {l : List (Value × Nat)} (h : ∀ s ∈ l, s.1.cells.size = sz) {i : Nat} (hi : i < l.length) {s : Value × Nat} (hs : s.1.cells.size = sz) :
    splice (flat l) (i * (sz + 1)) (s.1.cells.toList ++ [.int .i64 s.2]) = flat (l.set i s) := by
  obtain ⟨s0, hs0⟩ : ∃ s0, l[i]? = some s0 := ⟨l[i], by simp [hi]⟩
  have h0 : s0.1.cells.size = sz := h s0 (List.mem_of_getElem? hs0)
  rw [flat_set l i s hi, flat_split l i s0 hs0, splice]
  have ht := flat_take_length h (i := i) (by omega)
  have e1 : List.take (i * (sz + 1)) (flat (List.take i l) ++ (s0.1.cells.toList ++ [.int .i64 s0.2]) ++ flat (List.drop (i + 1) l)) = flat (List.take i l) := by
    rw [List.append_assoc, List.take_append_of_le_length (by omega), List.take_of_length_le (by omega)]
  have e2 : List.drop (i * (sz + 1) + (s.1.cells.toList ++ [Value.int .i64 s.2]).length) (flat (List.take i l) ++ (s0.1.cells.toList ++ [.int .i64 s0.2]) ++ flat (List.drop (i + 1) l)) = flat (List.drop (i + 1) l) := by
    rw [List.drop_append, List.drop_eq_nil_of_le (by simp [ht, h0, hs]), List.nil_append]
    simp [ht, h0, hs]
  rw [e1, e2]
/-- The count alone written over. -/
theorem flat_set_count {sz : Nat} {l : List (Value × Nat)} (h : ∀ s ∈ l, s.1.cells.size = sz) {i : Nat} {s : Value × Nat} (hi : l[i]? = some s) (c : Nat) :
    (flat l).set (i * (sz + 1) + sz) (.int .i64 c) = flat (l.set i (s.1, c)) := by
  have hlt := (List.getElem?_eq_some_iff.1 hi).1
  have hs : s.1.cells.size = sz := h s (List.mem_of_getElem? hi)
  have ht := flat_take_length h (i := i) (by omega)
  rw [flat_set l i _ hlt, flat_split l i s hi, List.append_assoc, List.append_assoc, List.set_append_right _ _ (by omega), ht]
  rw [show i * (sz + 1) + sz - i * (sz + 1) = sz by omega, List.set_append_right _ _ (by simp [hs])]
  simp [hs]
theorem set_same {α : Type} {l : List (α × Nat)} {i : Nat} {s : α × Nat} (hi : l[i]? = some s) : l.set i s = l := by
  obtain ⟨hlt, he⟩ := List.getElem?_eq_some_iff.1 hi
  rw [← he, List.set_getElem_self]
theorem WF.set {α : Type} {ok : α → Prop} {σ : SlabSt α} (h : σ.WF ok) {i : Nat} {s t : α × Nat} (hi : σ.slots[i]? = some s) (h0 : s.2 ≠ 0) (ht : ok t.1) (hc : t.2 ≤ 1073741824) (hc0 : t.2 ≠ 0) : WF ok { σ with slots := σ.slots.set i t } := by
  have hlt := (List.getElem?_eq_some_iff.1 hi).1
  refine ⟨h.room, by simpa using h.len, fun s hs => ?_, fun s hs => ?_, h.nodup, fun n hn => ?_, fun j v hv => ?_⟩
  · rcases List.mem_or_eq_of_mem_set hs with hs | rfl
    · exact h.things s hs
    · exact ht
  · rcases List.mem_or_eq_of_mem_set hs with hs | rfl
    · exact h.counts s hs
    · exact hc
  · obtain ⟨h1, v, hv⟩ := h.free n hn
    refine ⟨h1, v, ?_⟩
    rw [List.getElem?_set_ne]
    · exact hv
    · intro e; subst e; rw [hi] at hv; cases hv; exact h0 rfl
  · by_cases e : i = j
    · subst e
      rw [List.getElem?_set_self hlt] at hv
      cases hv
      exact absurd rfl hc0
    · rw [List.getElem?_set_ne e] at hv
      exact h.freed j v hv
theorem WF.letGo {α : Type} {ok : α → Prop} {σ : SlabSt α} (h : σ.WF ok) {i : Nat} {s : α × Nat} {z : α} (hi : σ.slots[i]? = some s) (h0 : s.2 ≠ 0) (hz : ok z) : WF ok { σ with slots := σ.slots.set i (z, 0), free := σ.free ++ [i + 1] } := by
  have hlt := (List.getElem?_eq_some_iff.1 hi).1
  refine ⟨h.room, by simpa using h.len, fun s hs => ?_, fun s hs => ?_, ?_, fun n hn => ?_, fun j v hv => ?_⟩
  · rcases List.mem_or_eq_of_mem_set hs with hs | rfl
    · exact h.things s hs
    · exact hz
  · rcases List.mem_or_eq_of_mem_set hs with hs | rfl
    · exact h.counts s hs
    · simp
  · refine List.nodup_append.2 ⟨h.nodup, by simp, fun x hx y hy => ?_⟩
    simp only [List.mem_singleton] at hy
    subst hy
    intro e
    subst e
    obtain ⟨_, v, hv⟩ := h.free _ hx
    rw [show i + 1 - 1 = i by omega, hi] at hv
    cases hv
    exact h0 rfl
  · rcases List.mem_append.1 hn with hn | hn
    · obtain ⟨h1, v, hv⟩ := h.free n hn
      refine ⟨h1, v, ?_⟩
      rw [List.getElem?_set_ne]
      · exact hv
      · intro e; subst e; rw [hi] at hv; cases hv; exact h0 rfl
    · simp only [List.mem_singleton] at hn
      subst hn
      exact ⟨by omega, z, by rw [show i + 1 - 1 = i by omega, List.getElem?_set_self hlt]⟩
  · by_cases e : i = j
    · subst e; simp
    · rw [List.getElem?_set_ne e] at hv
      exact List.mem_append_left _ (h.freed j v hv)
theorem WF.reuse {α : Type} {ok : α → Prop} {σ : SlabSt α} (h : σ.WF ok) {fr : List Nat} {n : Nat} (hf : σ.free = fr ++ [n]) {x : α} (hx : ok x) : WF ok { σ with slots := σ.slots.set (n - 1) (x, 1), free := fr } := by
  obtain ⟨h1, v0, hv0⟩ := h.free n (by rw [hf]; simp)
  have hlt := (List.getElem?_eq_some_iff.1 hv0).1
  have hnd := h.nodup
  rw [hf] at hnd
  obtain ⟨hn1, _, hn2⟩ := List.nodup_append.1 hnd
  refine ⟨h.room, by simpa using h.len, fun s hs => ?_, fun s hs => ?_, hn1, fun m hm => ?_, fun j v hv => ?_⟩
  · rcases List.mem_or_eq_of_mem_set hs with hs | rfl
    · exact h.things s hs
    · exact hx
  · rcases List.mem_or_eq_of_mem_set hs with hs | rfl
    · exact h.counts s hs
    · simp
  · obtain ⟨h2, v, hv⟩ := h.free m (by rw [hf]; simp [hm])
    refine ⟨h2, v, ?_⟩
    rw [List.getElem?_set_ne]
    · exact hv
    · intro e
      exact hn2 m hm n (by simp) (by omega)
  · by_cases e : n - 1 = j
    · subst e
      rw [List.getElem?_set_self hlt] at hv
      cases hv
    · rw [List.getElem?_set_ne e] at hv
      have := h.freed j v hv
      rw [hf, List.mem_append, List.mem_singleton] at this
      rcases this with h' | h'
      · exact h'
      · omega
theorem WF.push {α : Type} {ok : α → Prop} {σ : SlabSt α} (h : σ.WF ok) (hf : σ.free = []) (hr : σ.used ≠ σ.room) {x : α} (hx : ok x) : WF ok { σ with slots := σ.slots ++ [(x, 1)] } := by
  have hl := h.len
  refine ⟨h.room, ?_, fun s hs => ?_, fun s hs => ?_, h.nodup, fun m hm => ?_, fun j v hv => ?_⟩
  · simp [used, hf] at hr
    simp
    omega
  · rcases List.mem_append.1 hs with hs | hs
    · exact h.things s hs
    · simp only [List.mem_singleton] at hs; subst hs; exact hx
  · rcases List.mem_append.1 hs with hs | hs
    · exact h.counts s hs
    · simp only [List.mem_singleton] at hs; subst hs; simp
  · rw [hf] at hm; cases hm
  · simp only at hv
    rcases Nat.lt_or_ge j σ.slots.length with hj | hj
    · rw [List.getElem?_append_left hj] at hv
      exact h.freed j v hv
    · rw [List.getElem?_append_right hj] at hv
      cases hq : j - σ.slots.length with
      | zero => rw [hq] at hv; simp at hv
      | succ k => rw [hq] at hv; simp at hv
theorem WF.empty {α : Type} (ok : α → Prop) (n : Nat) (h1 : 1 ≤ n) (h2 : n ≤ 65536) : WF ok ⟨n, [], []⟩ :=
  ⟨⟨h1, h2⟩, Nat.zero_le _, (by simp), (by simp), List.nodup_nil, (by simp), (by simp)⟩
end SlabSt

/-- What a kind of things is in cells. -/
structure OkT (ok : Value → Prop) (sz : Nat) : Prop where
  size : ∀ v, ok v → v.cells.size = sz
  one : ∀ v, ok v → ∀ c ∈ v.cells.toList, c.oneCell' = true

/-- A slab in memory: 'eS', 'eI', 'T' the numbers of the types slot, int, slab; 'F' its blocks. -/
def SlabAt (eS eI T : TypeId) (sz : Nat) (ok : Value → Prop) (w : World) (a : Nat) (F : Nat → Prop) (σ : SlabSt) : Prop :=
  σ.WF ok ∧ ∃ vs vf, w.heap[a]? = some (.cells #[vs, vf, .int .i64 σ.room, .int .i64 σ.used] T (0, 0)) ∧ w.ownsRow 0 eS (sz + 1) vs σ.slots.length (SlabSt.flat σ.slots) ∧
    w.ownsRow 0 eI 1 vf σ.free.length (σ.free.map fun n => Value.int .i64 (n : Nat)) ∧ F a ∧ (∀ k, vs.ownBlock = some k → F k ∧ k ≠ a) ∧
    (∀ k, vf.ownBlock = some k → F k ∧ k ≠ a ∧ vs.ownBlock ≠ some k) ∧ (∀ k, F k → k < w.heap.size)

theorem SlabAt.keep {eS eI T : TypeId} {sz : Nat} {ok : Value → Prop} {w w' : World} {a : Nat} {F G : Nat → Prop} {σ : SlabSt} (h : SlabAt eS eI T sz ok w a F σ) (hc : Ch G w w') (hd : ∀ k, F k → ¬ G k) : SlabAt eS eI T sz ok w' a F σ := by
  obtain ⟨h0, vs, vf, h1, h2, h3, h4, h5, h6, h7⟩ := h
  exact ⟨h0, vs, vf, hc.row h1 (hd a h4), hc.owns h2 (fun k hk => hd k (h5 k hk).1), hc.owns h3 (fun k hk => hd k (h6 k hk).1), h4, h5, h6, fun k hk => Nat.lt_of_lt_of_le (h7 k hk) hc.size⟩

theorem SlabAt.make {eS eI T : TypeId} {sz : Nat} {ok : Value → Prop} {w : World} {a : Nat} {F : Nat → Prop} {σ : SlabSt} {vs vf : Value} {r u : Int} (h0 : σ.WF ok) (h1 : w.heap[a]? = some (.cells #[vs, vf, .int .i64 r, .int .i64 u] T (0, 0))) (hr : r = σ.room) (hu : u = σ.used)
    (h2 : w.ownsRow 0 eS (sz + 1) vs σ.slots.length (SlabSt.flat σ.slots)) (h3 : w.ownsRow 0 eI 1 vf σ.free.length (σ.free.map fun n => Value.int .i64 (n : Nat))) (h4 : F a) (h5 : ∀ k, vs.ownBlock = some k → F k ∧ k ≠ a)
    (h6 : ∀ k, vf.ownBlock = some k → F k ∧ k ≠ a ∧ vs.ownBlock ≠ some k) (h7 : ∀ k, F k → k < w.heap.size) : SlabAt eS eI T sz ok w a F σ := by
  subst hr; subst hu
  exact ⟨h0, vs, vf, h1, h2, h3, h4, h5, h6, h7⟩

/-- An owned row of at least one element: its block. -/
theorem owns_block {w : World} {base n sz : Nat} {e : TypeId} {v : Value} {xs : List Value} (h : w.ownsRow base e sz v n xs) (hn : 0 < n) :
    ∃ g cap cur, v = .slice (some ⟨g, 0, none⟩) n cap ∧ w.heap[g]? = some (.cells cur e (0, 0)) ∧ n ≤ cap ∧ cap ≤ maxLen ∧ cur.size = cap * sz ∧ cur.toList.take (n * sz) = xs := by
  rcases h.2 with ⟨_, h0⟩ | ⟨g, cap, cur, h1, _, h2, h3, h4, h5, h6⟩
  · omega
  · exact ⟨g, cap, cur, h1, h2, h3, h4, h5, h6⟩
/-- An owned row's value, whatever its length. -/
theorem owns_form {w : World} {base n sz : Nat} {e : TypeId} {v : Value} {xs : List Value} (h : w.ownsRow base e sz v n xs) : ∃ ao cap, v = .slice ao n cap := by
  rcases h.2 with ⟨h1, h0⟩ | ⟨g, cap, cur, h1, _⟩
  · subst h0; exact ⟨none, 0, h1⟩
  · exact ⟨_, cap, h1⟩
/-- An owned row told anew, of its block. -/
theorem owns_mk {w : World} {g n cap sz : Nat} {e : TypeId} {cur : Array Value} {xs : List Value} (hg : w.heap[g]? = some (.cells cur e (0, 0))) (h1 : n ≤ cap) (h2 : cap ≤ maxLen) (h3 : cur.size = cap * sz) (h4 : cur.toList.take (n * sz) = xs) :
    w.ownsRow 0 e sz (.slice (some ⟨g, 0, none⟩) n cap) n xs := by
  refine ⟨?_, .inr ⟨g, cap, cur, rfl, Nat.zero_le _, hg, h1, h2, h3, h4⟩⟩
  rw [← h4, List.length_take]
  have : n * sz ≤ cap * sz := Nat.mul_le_mul_right _ h1
  simp only [Array.length_toList]
  omega
/-- Of a row's cells those that the elements have. -/
theorem take_get {cur : Array Value} {k : Nat} {xs : List Value} (h : cur.toList.take k = xs) {i : Nat} {v : Value} (hi : xs[i]? = some v) : cur[i]? = some v := by
  subst h
  rw [List.getElem?_take] at hi
  split at hi
  · simpa using hi
  · cases hi
theorem take_splice {cur : Array Value} {k off : Nat} {xs v : List Value} (h : cur.toList.take k = xs) (hk : k ≤ cur.size) (hv : off + v.length ≤ k) : (splice cur.toList off v).take k = splice xs off v := by
  subst h
  simp only [splice]
  have e1 : (cur.toList.take k).take off = cur.toList.take off := by rw [List.take_take, Nat.min_eq_left (by omega)]
  have e2 : (cur.toList.take k).drop (off + v.length) = (cur.toList.drop (off + v.length)).take (k - (off + v.length)) := by rw [List.drop_take]
  rw [e1, e2, List.take_append, List.take_of_length_le (by simp; omega)]
  congr 1
  simp
  congr 1
  omega

end Go.Proofs.Ytdgdpbmaalcedaa
