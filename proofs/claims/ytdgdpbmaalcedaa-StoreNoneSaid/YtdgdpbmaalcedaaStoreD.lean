/- store.Drop, plainly: what a drop sweeps away, and that it ends. -/
import Derived.Test.YtdgdpbmaalcedaaStoreL
namespace Go.Proofs.Ytdgdpbmaalcedaa.Store
open Go Go.RowKit Go.Proofs.Ytdgdpbmaalcedaa Go.Proofs.Ytdgdpbmaalcedaa.ShaW Go.Proofs.Ytdgdpbmaalcedaa.Path
set_option linter.unusedVariables false

/-- All counts together. -/
def total (σ : SlabSt Nd) : Nat := (σ.slots.map (·.2)).sum
/-- How many slots hold something. -/
def live (σ : SlabSt Nd) : Nat := σ.slots.countP (fun s => s.2 != 0)
theorem sum_set : ∀ (l : List Nat) (m x y : Nat), l[m]? = some x → (l.set m y).sum + x = l.sum + y
  | [], m, x, y, h => by simp at h
  | a :: l, 0, x, y, h => by simp at h; subst h; simp; omega
  | a :: l, m + 1, x, y, h => by
    have := sum_set l m x y (by simpa using h)
    simp only [List.set_cons_succ, List.sum_cons]
    omega
theorem countP_set {α : Type} (p : α → Bool) : ∀ (l : List α) (m : Nat) (x y : α), l[m]? = some x → (l.set m y).countP p + (if p x then 1 else 0) = l.countP p + (if p y then 1 else 0)
  | [], m, x, y, h => by simp at h
  | a :: l, 0, x, y, h => by simp at h; subst h; simp only [List.set_cons_zero, List.countP_cons]; omega
  | a :: l, m + 1, x, y, h => by
    have := countP_set p l m x y (by simpa using h)
    simp only [List.set_cons_succ, List.countP_cons]
    omega
theorem live_le (σ : SlabSt Nd) : live σ ≤ σ.slots.length := List.countP_le_length
/-- A drop of something there takes one count away. -/
theorem drop_total {σ : SlabSt Nd} {h : Int} {x : Nd × Nat} (hx : σ.get? h = some x) : total (σ.drop Nd.zero h).2.2 + 1 = total σ := by
  obtain ⟨m, rfl, hs, h0, hl⟩ := SlabSt.get?_some hx
  have hs' : (σ.slots.map (·.2))[m]? = some x.2 := by simp [hs]
  unfold SlabSt.drop total
  rw [hx]
  simp only [SlabSt.setAt, show ((m : Int) + 1 - 1).toNat = m by omega]
  split
  · have := sum_set _ m x.2 0 hs'
    simp only [List.map_set]
    omega
  · have := sum_set _ m x.2 (x.2 - 1) hs'
    simp only [List.map_set]
    omega
theorem drop_absent {σ : SlabSt Nd} {h : Int} (hx : σ.get? h = none) : σ.drop Nd.zero h = (false, 7, σ) := by unfold SlabSt.drop; rw [hx]
theorem drop_freed {σ : SlabSt Nd} {h : Int} (hd : (σ.drop Nd.zero h).1 = true) : ∃ x, σ.get? h = some x ∧ x.2 = 1 := by
  unfold SlabSt.drop at hd
  cases hx : σ.get? h with
  | none => rw [hx] at hd; simp at hd
  | some x =>
    rw [hx] at hd
    refine ⟨x, rfl, ?_⟩
    by_cases h1 : x.2 = 1
    · exact h1
    · simp [h1] at hd
theorem drop_live {σ : SlabSt Nd} {h : Int} (hd : (σ.drop Nd.zero h).1 = true) : live (σ.drop Nd.zero h).2.2 + 1 = live σ := by
  obtain ⟨x, hx, h1⟩ := drop_freed hd
  obtain ⟨m, rfl, hs, h0, hl⟩ := SlabSt.get?_some hx
  unfold SlabSt.drop live
  rw [hx]
  simp only [SlabSt.setAt, show ((m : Int) + 1 - 1).toNat = m by omega, if_pos h1]
  have := countP_set (fun s : Nd × Nat => s.2 != 0) σ.slots m x (Nd.zero, 0) hs
  simp [h1] at this
  omega
theorem drop_kept {σ : SlabSt Nd} {h : Int} (hd : (σ.drop Nd.zero h).1 = false) : live (σ.drop Nd.zero h).2.2 = live σ := by
  cases hx : σ.get? h with
  | none => rw [drop_absent hx]
  | some x =>
    obtain ⟨m, rfl, hs, h0, hl⟩ := SlabSt.get?_some hx
    unfold SlabSt.drop at hd ⊢
    rw [hx] at hd ⊢
    simp only at hd ⊢
    by_cases h1 : x.2 = 1
    · simp [h1] at hd
    · rw [if_neg h1]
      simp only [SlabSt.setAt, live, show ((m : Int) + 1 - 1).toNat = m by omega]
      have := countP_set (fun s : Nd × Nat => s.2 != 0) σ.slots m x (x.1, x.2 - 1) hs
      have h2 : (x.2 != 0) = true := by simpa using h0
      have h3 : (x.2 - 1 != 0) = true := by simp; omega
      simp only [h2, h3, if_true] at this
      omega

/-- The sides of a freed node come onto the pile. -/
def pile (n : Nd) (st : List Int) : List Int := (if n.left = 0 then [] else [n.left]) ++ ((if n.right = 0 then [] else [n.right]) ++ st)
theorem pile_length (n : Nd) (st : List Int) : (pile n st).length ≤ st.length + 2 := by
  unfold pile
  simp only [List.length_append]
  split <;> split <;> simp <;> omega
theorem sweep_less {σ : SlabSt Nd} {h : Int} {rest : List Int} (hd : (σ.drop Nd.zero h).1 = true) : 3 * total (σ.drop Nd.zero h).2.2 + (pile (nd σ h) rest).length < 3 * total σ + (h :: rest).length := by
  obtain ⟨x, hx, _⟩ := drop_freed hd
  have h1 := drop_total hx
  have h2 := pile_length (nd σ h) rest
  simp only [List.length_cons]
  omega
theorem sweep_less' {σ : SlabSt Nd} {h : Int} {rest : List Int} : 3 * total (σ.drop Nd.zero h).2.2 + rest.length < 3 * total σ + (h :: rest).length := by
  simp only [List.length_cons]
  cases hx : σ.get? h with
  | none => rw [drop_absent hx]; simp
  | some x => have h1 := drop_total hx; omega

/-- The pile is swept, its top first: how many became free, and the store behind it. -/
def sweep (σ : SlabSt Nd) (st : List Int) (f : Nat) : Nat × SlabSt Nd :=
  match st with
  | [] => (f, σ)
  | h :: rest => if hd : (σ.drop Nd.zero h).1 = true then sweep (σ.drop Nd.zero h).2.2 (pile (nd σ h) rest) (f + 1) else sweep (σ.drop Nd.zero h).2.2 rest f
termination_by 3 * total σ + st.length
decreasing_by
  · exact sweep_less hd
  · exact sweep_less'
theorem sweep_nil (σ : SlabSt Nd) (f : Nat) : sweep σ [] f = (f, σ) := by rw [sweep]
theorem sweep_free {σ : SlabSt Nd} {h : Int} {rest : List Int} {f : Nat} (hd : (σ.drop Nd.zero h).1 = true) : sweep σ (h :: rest) f = sweep (σ.drop Nd.zero h).2.2 (pile (nd σ h) rest) (f + 1) := by
  rw [sweep, dif_pos hd]
theorem sweep_keep {σ : SlabSt Nd} {h : Int} {rest : List Int} {f : Nat} (hd : (σ.drop Nd.zero h).1 = false) : sweep σ (h :: rest) f = sweep (σ.drop Nd.zero h).2.2 rest f := by
  rw [sweep, dif_neg (by rw [hd]; simp)]
/-- The pile is never long. -/
theorem pile_bound {σ : SlabSt Nd} {h : Int} {rest : List Int} {B : Nat} (hb : (h :: rest).length + live σ ≤ B) :
    ((σ.drop Nd.zero h).1 = true → (pile (nd σ h) rest).length + live (σ.drop Nd.zero h).2.2 ≤ B) ∧ ((σ.drop Nd.zero h).1 = false → rest.length + live (σ.drop Nd.zero h).2.2 ≤ B) := by
  simp only [List.length_cons] at hb
  refine ⟨fun hd => ?_, fun hd => ?_⟩
  · have h1 := drop_live hd
    have h2 := pile_length (nd σ h) rest
    omega
  · have h1 := drop_kept hd
    omega

/-- Drop: how many became free, the error, the store behind it. -/
def dropS (σ : SlabSt Nd) (h : Int) : Int × Int × SlabSt Nd :=
  if has σ h = true ∧ (nd σ h).held ≠ 0 then (((sweep (bump σ h (-1)) [h] 0).1 : Nat), 0, (sweep (bump σ h (-1)) [h] 0).2) else (0, 7, σ)
end Go.Proofs.Ytdgdpbmaalcedaa.Store
