/- The law's two maps beside the slab, plainly: what a take, a hold and a drop do to the slots that are held. -/
import Derived.Test.YtdgdpbmaalcedaaSlabM
import Derived.Maps.OwnSet
namespace Go.Proofs.Ytdgdpbmaalcedaa
open Go Go.RowKit Go.Maps

set_option linter.unusedVariables false
namespace SlabSt
theorem get?_setAt {σ : SlabSt} {n : Int} {s t : Value × Nat} (h : σ.get? n = some s) (m : Int) : (σ.setAt n t).get? m = if m = n then (if t.2 = 0 then none else some t) else σ.get? m := by
  obtain ⟨i, rfl, hi, h0, hlt⟩ := get?_some h
  have e : ((i : Int) + 1 - 1).toNat = i := by omega
  by_cases hm : m = i + 1
  · subst hm
    rw [if_pos rfl]
    unfold get? setAt
    simp only [e]
    rw [if_pos (by omega), List.getElem?_set_self hlt]
    by_cases ht : t.2 = 0 <;> simp [Option.filter, ht]
  · rw [if_neg hm]
    unfold get? setAt
    simp only [e]
    by_cases h1 : 1 ≤ m
    · rw [if_pos h1, if_pos h1, List.getElem?_set_ne (by omega)]
    · rw [if_neg h1, if_neg h1]
theorem used_setAt (σ : SlabSt) (n : Int) (t : Value × Nat) : (σ.setAt n t).used = σ.used := by simp [used, setAt]
theorem count_none {σ : SlabSt} {n : Int} (h : σ.get? n = none) : σ.count n = 0 := by simp [count, h]
theorem count_some {σ : SlabSt} {n : Int} {s : Value × Nat} (h : σ.get? n = some s) : σ.count n = s.2 := by simp [count, h]
theorem used_pos {ok : Value → Prop} {σ : SlabSt} (h : σ.WF ok) {n : Int} {s : Value × Nat} (hs : σ.get? n = some s) : 0 < σ.used := by
  obtain ⟨i, rfl, hi, h0, hlt⟩ := get?_some hs
  have := h.free_lt hi h0
  unfold used; omega
/-- What a take answers. -/
theorem take_ok {ok : Value → Prop} {σ : SlabSt} (h : σ.WF ok) (x : Value) (hu : σ.used ≠ σ.room) :
    (σ.take x).2.1 = 0 ∧ 1 ≤ (σ.take x).1 ∧ (σ.take x).1 ≤ σ.room ∧ σ.get? (σ.take x).1 = none ∧ (σ.take x).2.2.used = σ.used + 1 ∧
      ∀ m, (σ.take x).2.2.get? m = if m = (σ.take x).1 then some (x, 1) else σ.get? m := by
  unfold take
  rw [if_neg hu]
  cases hf : σ.free.getLast? with
  | some n =>
    have hne : σ.free ≠ [] := fun e => by rw [e] at hf; cases hf
    have hl : n = σ.free.getLast hne := by rw [List.getLast?_eq_some_getLast hne] at hf; exact (Option.some.inj hf).symm
    have hmem : n ∈ σ.free := hl ▸ List.getLast_mem hne
    obtain ⟨h1, v, hv⟩ := h.free n hmem
    have hlt := (List.getElem?_eq_some_iff.1 hv).1
    have hlen := h.len
    have hfl : 0 < σ.free.length := List.length_pos_iff.2 hne
    have hfle := h.free_le
    have e : ((n : Int) - 1).toNat = n - 1 := by omega
    refine ⟨rfl, by simp only; omega, by simp only; omega, ?_, ?_, ?_⟩
    · unfold get?
      simp only [e]
      rw [if_pos (by omega), hv]
      simp [Option.filter]
    · simp only [used, List.length_set, List.length_dropLast]; omega
    · intro m
      by_cases hm : m = n
      · subst hm
        rw [if_pos rfl]
        unfold get?
        simp only [e]
        rw [if_pos (by omega), List.getElem?_set_self hlt]
        simp [Option.filter]
      · rw [if_neg hm]
        unfold get?
        by_cases hm1 : 1 ≤ m
        · rw [if_pos hm1, if_pos hm1, List.getElem?_set_ne (by omega)]
        · rw [if_neg hm1, if_neg hm1]
  | none =>
    have hf0 : σ.free = [] := by simpa using hf
    have hu' : σ.used = σ.slots.length := by simp [used, hf0]
    have hlen := h.len
    refine ⟨rfl, by simp only; omega, by simp only; omega, ?_, ?_, ?_⟩
    · unfold get?
      rw [if_pos (by simp only; omega)]
      rw [List.getElem?_eq_none (by simp only; omega)]
      rfl
    · simp [used, hf0]
    · intro m
      by_cases hm : m = σ.slots.length + 1
      · subst hm
        rw [if_pos rfl]
        unfold get?
        rw [if_pos (by omega), show ((σ.slots.length : Int) + 1 - 1).toNat = σ.slots.length by omega, List.getElem?_concat_length]
        simp [Option.filter]
      · rw [if_neg hm]
        unfold get?
        by_cases hm1 : 1 ≤ m
        · rw [if_pos hm1, if_pos hm1]
          by_cases hlt : (m - 1).toNat < σ.slots.length
          · rw [List.getElem?_append_left hlt]
          · rw [List.getElem?_eq_none (by simp only [List.length_append, List.length_singleton]; omega), List.getElem?_eq_none (by omega)]
        · rw [if_neg hm1, if_neg hm1]
theorem take_full {σ : SlabSt} (x : Value) (hu : σ.used = σ.room) : σ.take x = (0, 9, σ) := by unfold take; rw [if_pos hu]
theorem take_room (σ : SlabSt) (x : Value) : (σ.take x).2.2.room = σ.room := by
  unfold take
  split
  · rfl
  · split <;> rfl
theorem drop_room (z : Value) (σ : SlabSt) (n : Int) : (σ.drop z n).2.2.room = σ.room := by
  unfold drop
  split
  · rfl
  · split <;> rfl
theorem hold_none {σ : SlabSt} {n : Int} (h : σ.get? n = none) : σ.hold n = (7, σ) := by unfold hold; rw [h]
theorem drop_none {σ : SlabSt} {n : Int} (z : Value) (h : σ.get? n = none) : σ.drop z n = (false, 7, σ) := by unfold drop; rw [h]
end SlabSt

abbrev ky (n : Int) : Lit := .int .i64 n
abbrev num (n : Int) : DataW Value := .lit (.int .i64 n)
/-- An element read as itself. -/
def selfElem (v : Value) : Option (DataW Value × List MemPlace) := some (.held v, [])

@[reducible] def actV (a b c : Int) : Value := .agg #[.int .i64 a, .int .i64 b, .int .i64 c]
def IsAct (v : Value) : Prop := ∃ a b c, v = actV a b c

/-- The maps say what the slab says; no count is above 'k'. -/
structure Tied (σ : SlabSt) (Dc Dt : DataW Value) (k : Nat) : Prop where
  cnt : ∀ n : Int, Dc.atKey (ky n) (num 0) = num (σ.count n)
  has : ∀ n : Int, Maps.has Dc (ky n) = (σ.get? n).isSome
  size : Maps.size Dc = σ.used
  thing : ∀ (n : Int) s z, σ.get? n = some s → Dt.atKey (ky n) z = .held s.1
  few : ∀ (n : Int) s, σ.get? n = some s → s.2 ≤ k
  acts : ∀ (n : Int) s, σ.get? n = some s → IsAct s.1

theorem ky_key (n : Int) : WideAt.IsKeyLit (ky n) := trivial
theorem ky_ne {m n : Int} (h : m ≠ n) : ky m ≠ ky n := fun e => h (by cases e; rfl)

theorem Tied.later {σ : SlabSt} {Dc Dt : DataW Value} {k : Nat} (h : Tied σ Dc Dt k) : Tied σ Dc Dt (k + 1) :=
  ⟨h.cnt, h.has, h.size, h.thing, fun n s hs => Nat.le_succ_of_le (h.few n s hs), h.acts⟩

/-- One slot's count is written over (it may be new): the counts' map is put alike. -/
theorem Tied.put {σ σ' : SlabSt} {Dc Dt Dt' : DataW Value} {k : Nat} (h : Tied σ Dc Dt k) (hc : Tidy Dc) (n : Int) (s : Value × Nat) (h0 : s.2 ≠ 0) (hk : s.2 ≤ k + 1) (ha : IsAct s.1)
    (hg : ∀ m, σ'.get? m = if m = n then some s else σ.get? m) (hu : σ'.used = if (σ.get? n).isSome then σ.used else σ.used + 1)
    (ht : ∀ z, Dt'.atKey (ky n) z = .held s.1) (ht' : ∀ m z, m ≠ n → Dt'.atKey (ky m) z = Dt.atKey (ky m) z) : Tied σ' (Dc.put (ky n) (num s.2)) Dt' (k + 1) where
  cnt m := by
    by_cases hm : m = n
    · subst hm
      rw [Maps.atKey_put_same hc.isMap (ky_key _)]
      have := hg m
      rw [if_pos rfl] at this
      rw [SlabSt.count_some this]
    · rw [Maps.atKey_put_other (ky_ne hm), h.cnt]
      have := hg m
      rw [if_neg hm] at this
      simp only [SlabSt.count, this]
  has m := by
    by_cases hm : m = n
    · subst hm
      rw [Maps.has_put_same hc.isMap (ky_key _), hg, if_pos rfl]; rfl
    · rw [Maps.has_put_other (ky_ne hm), hg, if_neg hm, h.has]
  size := by rw [Maps.size_put hc, h.has, hu, h.size]
  thing m t z hm := by
    rw [hg] at hm
    by_cases e : m = n
    · subst e; rw [if_pos rfl] at hm; cases hm; exact ht z
    · rw [if_neg e] at hm; rw [ht' m z e]; exact h.thing m t z hm
  few m t hm := by
    rw [hg] at hm
    by_cases e : m = n
    · subst e; rw [if_pos rfl] at hm; cases hm; exact hk
    · rw [if_neg e] at hm; exact Nat.le_succ_of_le (h.few m t hm)
  acts m t hm := by
    rw [hg] at hm
    by_cases e : m = n
    · subst e; rw [if_pos rfl] at hm; cases hm; exact ha
    · rw [if_neg e] at hm; exact h.acts m t hm

theorem Tied.take {ok : Value → Prop} {σ : SlabSt} {Dc Dt : DataW Value} {k : Nat} (h : Tied σ Dc Dt k) (hw : σ.WF ok) (hc : Tidy Dc) (hd : IsMap Dt) (x : Value) (hx : IsAct x) (hu : σ.used ≠ σ.room) :
    Tied (σ.take x).2.2 (Dc.put (ky (σ.take x).1) (num 1)) (Dt.put (ky (σ.take x).1) (.held x)) (k + 1) := by
  obtain ⟨_, _, _, h3, h4, h5⟩ := SlabSt.take_ok hw x hu
  exact h.put hc (σ.take x).1 (x, 1) (by simp) (by simp) hx h5 (by rw [h4, h3]; rfl) (fun z => Maps.atKey_put_same hd (ky_key _) _ _) (fun m z hm => Maps.atKey_put_other (ky_ne hm) _ _)

theorem Tied.hold {σ : SlabSt} {Dc Dt : DataW Value} {k : Nat} (h : Tied σ Dc Dt k) (hc : Tidy Dc) (hk : k ≤ 400) (n : Int) {s : Value × Nat} (hs : σ.get? n = some s) :
    σ.hold n = (0, σ.setAt n (s.1, s.2 + 1)) ∧ Tied (σ.setAt n (s.1, s.2 + 1)) (Dc.put (ky n) (num (s.2 + 1 : Nat))) Dt (k + 1) := by
  have hf := h.few n s hs
  refine ⟨by unfold SlabSt.hold; rw [hs]; simp only; rw [if_neg (by omega)], ?_⟩
  exact h.put hc n (s.1, s.2 + 1) (by simp) (by simp only; omega) (h.acts n s hs) (fun m => by rw [SlabSt.get?_setAt hs]; simp) (by rw [SlabSt.used_setAt, hs]; rfl) (fun z => h.thing n s z hs) (fun _ _ _ => rfl)

theorem Tied.keep {σ : SlabSt} {Dc Dt : DataW Value} {k : Nat} (h : Tied σ Dc Dt k) (hc : Tidy Dc) (z : Value) (n : Int) {s : Value × Nat} (hs : σ.get? n = some s) (h1 : s.2 ≠ 1) :
    σ.drop z n = (false, 0, σ.setAt n (s.1, s.2 - 1)) ∧ Tied (σ.setAt n (s.1, s.2 - 1)) (Dc.put (ky n) (num (s.2 - 1 : Nat))) Dt (k + 1) := by
  have hf := h.few n s hs
  obtain ⟨_, _, _, h0, _⟩ := SlabSt.get?_some hs
  refine ⟨by unfold SlabSt.drop; rw [hs]; simp only; rw [if_neg h1], ?_⟩
  exact h.put hc n (s.1, s.2 - 1) (by simp only; omega) (by simp only; omega) (h.acts n s hs) (fun m => by rw [SlabSt.get?_setAt hs]; simp [show s.2 - 1 ≠ 0 by omega]) (by rw [SlabSt.used_setAt, hs]; rfl) (fun z => h.thing n s z hs) (fun _ _ _ => rfl)

theorem Tied.letGo {ok : Value → Prop} {σ : SlabSt} {Dc Dt : DataW Value} {k : Nat} (h : Tied σ Dc Dt k) (hw : σ.WF ok) (hc : Tidy Dc) (z : Value) (n : Int) {s : Value × Nat} (hs : σ.get? n = some s) (h1 : s.2 = 1) :
    (σ.drop z n).1 = true ∧ (σ.drop z n).2.1 = 0 ∧ Tied (σ.drop z n).2.2 (Dc.del (ky n)) Dt (k + 1) := by
  have e : σ.drop z n = (true, 0, { σ.setAt n (z, 0) with free := σ.free ++ [n.toNat] }) := by unfold SlabSt.drop; rw [hs]; simp only; rw [if_pos h1]
  rw [e]
  have hg : ∀ m, ({ σ.setAt n (z, 0) with free := σ.free ++ [n.toNat] } : SlabSt).get? m = if m = n then none else σ.get? m := fun m => by
    have := SlabSt.get?_setAt (t := (z, 0)) hs m
    simpa [SlabSt.get?] using this
  have hp := SlabSt.used_pos hw hs
  have hu : ({ σ.setAt n (z, 0) with free := σ.free ++ [n.toNat] } : SlabSt).used = σ.used - 1 := by
    simp only [SlabSt.used, SlabSt.setAt, List.length_set, List.length_append, List.length_singleton]; omega
  refine ⟨rfl, rfl, ?_⟩
  exact
    { cnt := fun m => by
        by_cases hm : m = n
        · subst hm
          rw [Maps.atKey_del_same, SlabSt.count_none (by rw [hg, if_pos rfl])]; rfl
        · rw [Maps.atKey_del_other (ky_ne hm), h.cnt]
          simp only [SlabSt.count, hg m, if_neg hm]
      has := fun m => by
        by_cases hm : m = n
        · subst hm
          rw [Maps.has_del_same, hg, if_pos rfl]; rfl
        · rw [Maps.has_del_other (ky_ne hm), hg, if_neg hm, h.has]
      size := by
        have := Maps.size_del (k := ky n) hc
        rw [h.has, hs] at this
        simp only [Option.isSome_some, if_true] at this
        rw [hu, ← h.size]; omega
      thing := fun m t z' hm => by
        rw [hg] at hm
        by_cases e : m = n
        · subst e; simp at hm
        · rw [if_neg e] at hm; exact h.thing m t z' hm
      few := fun m t hm => by
        rw [hg] at hm
        by_cases e : m = n
        · subst e; simp at hm
        · rw [if_neg e] at hm; exact Nat.le_succ_of_le (h.few m t hm)
      acts := fun m t hm => by
        rw [hg] at hm
        by_cases e : m = n
        · subst e; simp at hm
        · rw [if_neg e] at hm; exact h.acts m t hm }

/-- A slot that is not held: nothing to strike. -/
theorem Tied.del_none {σ : SlabSt} {Dc Dt : DataW Value} {k : Nat} (h : Tied σ Dc Dt k) (n : Int) (hs : σ.get? n = none) : Dc.del (ky n) = Dc :=
  Maps.del_of_not_has (by rw [h.has, hs]; rfl)

theorem Tied.start (n : Nat) : Tied ⟨n, [], []⟩ (.map []) (.map []) 0 where
  cnt m := by simp [SlabSt.count, SlabSt.get?]; rfl
  has m := by simp [SlabSt.get?]; rfl
  size := rfl
  thing m s z h := by simp [SlabSt.get?] at h
  few m s h := by simp [SlabSt.get?] at h
  acts m s h := by simp [SlabSt.get?] at h

end Go.Proofs.Ytdgdpbmaalcedaa
