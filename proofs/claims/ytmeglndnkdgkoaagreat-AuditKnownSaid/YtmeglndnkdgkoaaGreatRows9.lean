/- Rows of pairs that a law has made. -/
import Derived.Test.YtmeglndnkdgkoaaGreatLarge9
namespace Go.Proofs.YtmeglndnkdgkoaaGreat.Law9
open Go Go.RowKit Go.Proofs.YtmeglndnkdgkoaaGreat Go.Proofs.YtmeglndnkdgkoaaGreat.ShaW Go.Proofs.YtmeglndnkdgkoaaGreat.Path Go.Proofs.YtmeglndnkdgkoaaGreat.Store
set_option linter.unusedVariables false

def flatP (l : List Pr) : List Value := l.flatMap fun x => x.cells.toList
def KeyOk (l : List Pr) : Prop := ∀ x ∈ l, x.key.length = 32
theorem KeyOk.size {l : List Pr} (h : KeyOk l) {x : Pr} (hx : x ∈ l) : x.cells.toList.length = 33 := by rw [Array.length_toList]; exact Pr.size (h x hx)
theorem flatP_length : ∀ (l : List Pr), KeyOk l → (flatP l).length = l.length * 33
  | [], _ => by simp [flatP]
  | x :: l, h => by
    have ih := flatP_length l (fun y hy => h y (List.mem_cons_of_mem _ hy))
    have e : flatP (x :: l) = x.cells.toList ++ flatP l := by simp [flatP]
    rw [e, List.length_append, ih, h.size (List.mem_cons_self ..), List.length_cons]
    omega
theorem flatP_append (l m : List Pr) : flatP (l ++ m) = flatP l ++ flatP m := by simp [flatP]
theorem flatP_split {l : List Pr} {i : Nat} {x : Pr} (hi : l[i]? = some x) : flatP l = flatP (l.take i) ++ (x.cells.toList ++ flatP (l.drop (i + 1))) := by
  obtain ⟨hlt, rfl⟩ := List.getElem?_eq_some_iff.1 hi
  have e := List.take_append_drop i l
  rw [List.drop_eq_getElem_cons hlt] at e
  have e2 : flatP l = flatP (l.take i ++ l[i] :: l.drop (i + 1)) := by rw [e]
  have e3 : flatP (l[i] :: l.drop (i + 1)) = l[i].cells.toList ++ flatP (l.drop (i + 1)) := List.flatMap_cons
  rw [e2, flatP_append, e3]
theorem flatP_take {l : List Pr} (h : KeyOk l) {i : Nat} (hi : i ≤ l.length) : (flatP (l.take i)).length = i * 33 := by
  rw [flatP_length _ (fun x hx => h x (List.mem_of_mem_take hx)), List.length_take, Nat.min_eq_left hi]
theorem flatP_get {l : List Pr} (h : KeyOk l) {i : Nat} {x : Pr} (hi : l[i]? = some x) : ((flatP l).drop (i * 33)).take 33 = x.cells.toList := by
  have hlt := (List.getElem?_eq_some_iff.1 hi).1
  have hs := h.size (List.mem_of_getElem? hi)
  rw [flatP_split hi, List.drop_append_of_le_length (by rw [flatP_take h (by omega)]; omega), List.drop_eq_nil_of_le (by rw [flatP_take h (by omega)]; omega), List.nil_append, List.take_append_of_le_length (by omega), List.take_of_length_le (by omega)]
theorem flatP_set {l : List Pr} (h : KeyOk l) {i : Nat} (hi : i < l.length) {p : Pr} (hp : p.key.length = 32) : splice (flatP l) (i * 33) p.cells.toList = flatP (l.set i p) := by
  have hx : l[i]? = some l[i] := List.getElem?_eq_getElem hi
  have hp' : (l.set i p)[i]? = some p := by simp [hi]
  have hs := h.size (List.mem_of_getElem? hx)
  have hps : p.cells.toList.length = 33 := by rw [Array.length_toList]; exact Pr.size hp
  have e2 : (l.set i p).take i = l.take i := by rw [List.take_set_of_le (Nat.le_refl _)]
  have e3 : (l.set i p).drop (i + 1) = l.drop (i + 1) := by rw [List.drop_set_of_lt (Nat.lt_succ_self _)]
  rw [flatP_split hp', e2, e3, splice, hps]
  have ht := flatP_take h (i := i) (by omega)
  have e4 : (flatP l).take (i * 33) = flatP (l.take i) := by
    rw [flatP_split hx, List.take_append_of_le_length (by omega), List.take_of_length_le (by omega)]
  have e5 : (flatP l).drop (i * 33 + 33) = flatP (l.drop (i + 1)) := by
    rw [flatP_split hx, ← List.append_assoc, List.drop_append, List.drop_eq_nil_of_le (by rw [List.length_append]; omega), List.nil_append, List.length_append, ht, hs]
    simp
  rw [e4, e5, List.append_assoc]
/-- A row of pairs in memory. -/
def RowP (w : World) (b : Nat) (v : Value) (l : List Pr) : Prop := w.ownsRow b 159 33 v l.length (flatP l)
variable {w w' : World} {b : Nat} {v : Value} {l : List Pr}
theorem RowP.form (h : RowP w b v l) : ∃ ao cap, v = .slice ao l.length cap := owns_form h
theorem RowP.adds (h : RowP w b v l) (a : Adds w w') : RowP w' b v l := a.owns h (fun _ _ h => h)
theorem RowP.drew (h : RowP w b v l) : RowP w.drew b v l := h
/-- What lies in it. -/
theorem RowP.open (h : RowP w b v l) (hk : KeyOk l) (hl : 0 < l.length) : ∃ g cap cur, v = .slice (some ⟨g, 0, none⟩) l.length cap ∧ b ≤ g ∧ w.heap[g]? = some (.cells cur 159 (0, 0)) ∧ l.length * 33 ≤ cur.size ∧
    (∀ i x, l[i]? = some x → cur.extract (i * 33) (i * 33 + 33) = x.cells) ∧
    ∀ i p, i < l.length → p.key.length = 32 → RowP (w.setRow g (splice cur.toList (i * 33) p.cells.toList).toArray) b v (l.set i p) := by
  obtain ⟨h0, ⟨_, h1⟩ | ⟨g, cap, cur, rfl, hb, hg, hn, hc, hs, ht⟩⟩ := h
  · omega
  · have hle : l.length * 33 ≤ cap * 33 := Nat.mul_le_mul_right _ hn
    refine ⟨g, cap, cur, rfl, hb, hg, by omega, fun i x hx => ?_, fun i p hi hp => ?_⟩
    · have hlt := (List.getElem?_eq_some_iff.1 hx).1
      have hm : i * 33 + 33 ≤ l.length * 33 := by have := Nat.mul_le_mul_right 33 (show i + 1 ≤ l.length by omega); omega
      apply Array.ext'
      rw [← flatP_get hk hx, ← ht]
      simp only [Array.toList_extract, List.extract]
      rw [List.drop_take, List.take_take, show i * 33 + 33 - i * 33 = 33 by omega, Nat.min_eq_left (by omega)]
    · have hps : p.cells.toList.length = 33 := by rw [Array.length_toList]; exact Pr.size hp
      have hm : i * 33 + 33 ≤ l.length * 33 := by have := Nat.mul_le_mul_right 33 (show i + 1 ≤ l.length by omega); omega
      have hsl : (splice cur.toList (i * 33) p.cells.toList).length = cap * 33 := by
        unfold splice
        rw [List.length_append, List.length_append, List.length_take, List.length_drop, Array.length_toList, hps]
        omega
      have hks : KeyOk (l.set i p) := fun x hx => by
        rcases List.mem_or_eq_of_mem_set hx with h | h
        · exact hk x h
        · rw [h]; exact hp
      refine ⟨by rw [flatP_length _ hks], .inr ⟨g, cap, _, by rw [List.length_set], hb, row_setRow_same hg _, by rw [List.length_set]; exact hn, hc, by simpa using hsl, ?_⟩⟩
      rw [List.length_set, ← flatP_set hk hi hp, ← ht]
      have hcl : cur.toList.length = cap * 33 := by rw [Array.length_toList]; exact hs
      unfold splice
      rw [hps]
      rw [List.take_append, List.take_append, List.take_of_length_le (l := cur.toList.take (i * 33)) (by rw [List.length_take]; omega), List.take_take, Nat.min_eq_left (by omega)]
      rw [List.length_append, List.length_take, hcl, hps, Nat.min_eq_left (by omega)]
      rw [List.take_of_length_le (l := p.cells.toList) (by omega)]
      congr 1
      rw [List.drop_take]
theorem RowP.nil (w : World) (b : Nat) : RowP w b (.slice none 0 0) [] := World.ownsRow_nil _ _ _ _

/-- The entries that writes lead to. -/
inductive Pairs : List Pr → List Pr → Prop
  | nil : Pairs [] []
  | new {l out : List Pr} {p : Pr} (h : Pairs l out) (hp : ∀ q ∈ out, q.key ≠ p.key) : Pairs (l ++ [p]) (out ++ [p])
  | old {l out : List Pr} {p q : Pr} {i : Nat} (h : Pairs l out) (hq : out[i]? = some q) (hk : q.key = p.key) : Pairs (l ++ [p]) (out.set i p)
theorem Pairs.mem {l out : List Pr} (h : Pairs l out) : ∀ x ∈ out, x ∈ l := by
  induction h with
  | nil => exact fun _ h => h
  | new h hp ih =>
    intro x hx
    rcases List.mem_append.1 hx with hx | hx
    · exact List.mem_append_left _ (ih x hx)
    · exact List.mem_append_right _ hx
  | old h hq hk ih =>
    intro x hx
    rcases List.mem_or_eq_of_mem_set hx with h | h
    · exact List.mem_append_left _ (ih x h)
    · exact List.mem_append_right _ (by rw [h]; simp)
theorem Pairs.len {l out : List Pr} (h : Pairs l out) : out.length ≤ l.length := by
  induction h with
  | nil => exact Nat.le_refl _
  | new h hp ih => simp only [List.length_append, List.length_singleton]; omega
  | old h hq hk ih => simp only [List.length_append, List.length_singleton, List.length_set]; omega
theorem Pairs.nodup {l out : List Pr} (h : Pairs l out) : (out.map (·.key)).Nodup := by
  induction h with
  | nil => exact List.nodup_nil
  | new h hp ih =>
    rw [List.map_append, List.nodup_append]
    refine ⟨ih, by simp, fun a ha b hb e => ?_⟩
    obtain ⟨q, hq, rfl⟩ := List.mem_map.1 ha
    simp at hb
    exact hp q hq (e.trans hb)
  | @old l out p q i h hq hk ih =>
    have : (out.set i p).map (·.key) = out.map (·.key) := by
      rw [List.map_set]
      refine List.ext_getElem? fun j => ?_
      rw [List.getElem?_set]
      split
      · rename_i e
        subst e
        have hlt := (List.getElem?_eq_some_iff.1 hq).1
        simp only [List.length_map, hlt, if_true, List.getElem?_map, hq, Option.map_some, hk]
      · rfl
    rw [this]
    exact ih
end Go.Proofs.YtmeglndnkdgkoaaGreat.Law9
