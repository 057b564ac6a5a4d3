/- The store, plainly: Inner; what is true of every store behind any calls: counts add up. -/
import Derived.Test.YtdgdpbmaalcedaaStoreD
import Derived.Test.YtdgdpbmaalcedaaStoreI
namespace Go.Proofs.Ytdgdpbmaalcedaa.Store
open Go Go.RowKit Go.Proofs.Ytdgdpbmaalcedaa Go.Proofs.Ytdgdpbmaalcedaa.ShaW Go.Proofs.Ytdgdpbmaalcedaa.Path
set_option linter.unusedVariables false

theorem nd_zero (σ : SlabSt Nd) : nd σ 0 = Nd.zero := rfl
/-- What is no side of a node to be. -/
def sideBad (σ : SlabSt Nd) (h : Int) : Prop := h ≠ 0 ∧ (has σ h = false ∨ (nd σ h).held = 0)
instance (σ : SlabSt Nd) (h : Int) : Decidable (sideBad σ h) := inferInstanceAs (Decidable (_ ∧ _))
/-- The node that Inner makes. -/
noncomputable def innerNd (σ : SlabSt Nd) (d left right : Int) : Nd :=
  Nd.inner (Tag.innerD (digestOf σ left) (digestOf σ right)) (Path.first (if left = 0 then (nd σ right).key else (nd σ left).key) d) d left right (wrap64 ((nd σ left).size + (nd σ right).size))
/-- Inner: handle, error, the store behind it. -/
noncomputable def innerS (σ : SlabSt Nd) (d left right : Int) : Int × Int × SlabSt Nd :=
  if d < 0 ∨ 255 < d then (0, 2, σ) else
  if sideBad σ left ∨ sideBad σ right then (0, 7, σ) else
  if fitsB d left right (nd σ left) (nd σ right) = false then (0, 2, σ) else
  if (σ.take (innerNd σ d left right)).2.1 ≠ 0 then (0, (σ.take (innerNd σ d left right)).2.1, σ) else
  ((σ.take (innerNd σ d left right)).1, 0, bump (bump (σ.take (innerNd σ d left right)).2.2 left (-1)) right (-1))

/-- How often a node names a handle as its side. -/
def refs (n : Nd) (h : Int) : Nat := (if n.left = h then 1 else 0) + (if n.right = h then 1 else 0)
def part (s : Nd × Nat) (h : Int) : Nat := if s.2 = 0 then 0 else refs s.1 h
/-- How many sides a handle is. -/
def sides (σ : SlabSt Nd) (h : Int) : Nat := (σ.slots.map (part · h)).sum
/-- How far down a node lies at least. -/
def rank (n : Nd) : Int := if n.kind = 2 then n.depth else 256

structure Sound (σ : SlabSt Nd) (pile : List Int) : Prop where
  wf : σ.WF (fun _ => True)
  counts : ∀ h x, σ.get? h = some x → (x.2 : Int) = x.1.held + sides σ h + pile.count h
  held : ∀ h x, σ.get? h = some x → 0 ≤ x.1.held
  left : ∀ h x, σ.get? h = some x → x.1.left ≠ 0 → ∃ y, σ.get? x.1.left = some y ∧ rank x.1 < rank y.1
  right : ∀ h x, σ.get? h = some x → x.1.right ≠ 0 → ∃ y, σ.get? x.1.right = some y ∧ rank x.1 < rank y.1
  pile : ∀ p ∈ pile, ∃ y, σ.get? p = some y

theorem sum_zero : ∀ (l : List Nat), (∀ x ∈ l, x = 0) → l.sum = 0
  | [], _ => rfl
  | a :: l, h => by
    have h1 := h a (List.mem_cons_self ..)
    have h2 := sum_zero l (fun x hx => h x (List.mem_cons_of_mem _ hx))
    simp [h1, h2]
theorem sum_some : ∀ (l : List Nat), l.sum ≠ 0 → ∃ m x : Nat, l[m]? = some x ∧ x ≠ 0
  | [], h => absurd rfl h
  | a :: l, h => by
    by_cases ha : a = 0
    · obtain ⟨m, x, h1, h2⟩ := sum_some l (by simpa [ha] using h)
      exact ⟨m + 1, x, by simpa using h1, h2⟩
    · exact ⟨0, a, rfl, ha⟩
theorem sides_some {σ : SlabSt Nd} {h : Int} (hs : sides σ h ≠ 0) : ∃ k x, σ.get? k = some x ∧ (x.1.left = h ∨ x.1.right = h) := by
  obtain ⟨m, x, h1, h2⟩ := sum_some _ hs
  simp only [List.getElem?_map, Option.map_eq_some_iff] at h1
  obtain ⟨s, h1, rfl⟩ := h1
  unfold part at h2
  split at h2
  · exact absurd rfl h2
  · rename_i h0
    refine ⟨(m : Int) + 1, s, SlabSt.get?_of h1 h0, ?_⟩
    unfold refs at h2
    by_cases hl : s.1.left = h
    · exact .inl hl
    · by_cases hr : s.1.right = h
      · exact .inr hr
      · simp [hl, hr] at h2
theorem sides_set {σ : SlabSt Nd} {m : Nat} {x : Nd × Nat} (hx : σ.slots[m]? = some x) (y : Nd × Nat) (h : Int) (fr : List Nat) : sides ⟨σ.room, σ.slots.set m y, fr⟩ h + part x h = sides σ h + part y h := by
  unfold sides
  simp only [List.map_set]
  exact sum_set _ m (part x h) (part y h) (by simp [hx])
/-- What a changed slot says. -/
theorem get_set {σ : SlabSt Nd} {m : Nat} (hm : m < σ.slots.length) (y : Nd × Nat) (fr : List Nat) (k : Int) :
    (⟨σ.room, σ.slots.set m y, fr⟩ : SlabSt Nd).get? k = if k = m + 1 then (if y.2 = 0 then none else some y) else σ.get? k := by
  unfold SlabSt.get?
  by_cases hk : k = m + 1
  · rw [if_pos hk, if_pos (by omega), hk]
    simp only [show ((m : Int) + 1 - 1).toNat = m by omega, List.getElem?_set_self hm, Option.filter]
    by_cases h0 : y.2 = 0 <;> simp [h0]
  · rw [if_neg hk]
    by_cases h1 : 1 ≤ k
    · rw [if_pos h1, if_pos h1, List.getElem?_set_ne (by omega)]
    · rw [if_neg h1, if_neg h1]
theorem get_append {σ : SlabSt Nd} (y : Nd × Nat) (fr : List Nat) (hy : y.2 ≠ 0) (k : Int) :
    (⟨σ.room, σ.slots ++ [y], fr⟩ : SlabSt Nd).get? k = if k = σ.slots.length + 1 then some y else σ.get? k := by
  unfold SlabSt.get?
  by_cases hk : k = σ.slots.length + 1
  · rw [if_pos hk, if_pos (by omega), hk]
    simp only [show ((σ.slots.length : Int) + 1 - 1).toNat = σ.slots.length by omega]
    rw [List.getElem?_append_right (Nat.le_refl _)]
    simp [Option.filter, hy]
  · rw [if_neg hk]
    by_cases h1 : 1 ≤ k
    · rw [if_pos h1, if_pos h1]
      rcases Nat.lt_or_ge (k - 1).toNat σ.slots.length with hl | hl
      · rw [List.getElem?_append_left hl]
      · rw [List.getElem?_append_right hl, List.getElem?_eq_none hl]
        rw [List.getElem?_eq_none (by simp; omega)]
    · rw [if_neg h1, if_neg h1]
theorem get_room {σ : SlabSt Nd} (r : Nat) (fr : List Nat) (k : Int) : (⟨r, σ.slots, fr⟩ : SlabSt Nd).get? k = σ.get? k := rfl

/-- A slot's count, or how often it is held, changes. -/
theorem Sound.put {σ : SlabSt Nd} {pile pile' : List Int} (hs : Sound σ pile) {h : Int} {x : Nd × Nat} (hx : σ.get? h = some x) {y : Nd} {c : Nat} (hc : c ≠ 0) (hcm : c ≤ 1073741824)
    (hl : y.left = x.1.left) (hr : y.right = x.1.right) (hk : rank y = rank x.1) (hh : 0 ≤ y.held) (he : (c : Int) - y.held - pile'.count h = x.2 - x.1.held - pile.count h)
    (hp : ∀ k, k ≠ h → pile'.count k = pile.count k) : Sound (σ.setAt h (y, c)) pile' := by
  obtain ⟨m, rfl, hm, h0, hlt⟩ := SlabSt.get?_some hx
  have hget : ∀ k, (σ.setAt ((m : Int) + 1) (y, c)).get? k = if k = m + 1 then some (y, c) else σ.get? k := fun k => by
    have := get_set hlt (y, c) σ.free k
    rw [if_neg (show ¬ ((y, c) : Nd × Nat).2 = 0 from hc)] at this
    simp only [SlabSt.setAt, show ((m : Int) + 1 - 1).toNat = m by omega]
    exact this
  have hsd : ∀ k, sides (σ.setAt ((m : Int) + 1) (y, c)) k = sides σ k := fun k => by
    have h1 := sides_set hm (y, c) k σ.free
    have h2 : part (y, c) k = part x k := by simp [part, hc, h0, refs, hl, hr]
    simp only [SlabSt.setAt, show ((m : Int) + 1 - 1).toNat = m by omega]
    omega
  have hlive : ∀ k z, σ.get? k = some z → ∃ y', (σ.setAt ((m : Int) + 1) (y, c)).get? k = some y' ∧ rank y'.1 = rank z.1 := fun k z hz => by
    rw [hget]
    by_cases hk' : k = m + 1
    · rw [if_pos hk']; subst hk'; rw [hx] at hz; cases hz; exact ⟨_, rfl, hk⟩
    · rw [if_neg hk']; exact ⟨z, hz, rfl⟩
  have hback : ∀ k z, (σ.setAt ((m : Int) + 1) (y, c)).get? k = some z → ∃ z', σ.get? k = some z' ∧ z.1.left = z'.1.left ∧ z.1.right = z'.1.right ∧ rank z.1 = rank z'.1 := fun k z hz => by
    rw [hget] at hz
    by_cases hk' : k = m + 1
    · rw [if_pos hk'] at hz; cases hz; subst hk'; exact ⟨x, hx, hl, hr, hk⟩
    · rw [if_neg hk'] at hz; exact ⟨z, hz, rfl, rfl, rfl⟩
  refine ⟨?_, ?_, ?_, ?_, ?_, ?_⟩
  · refine ⟨hs.wf.room, by simpa [SlabSt.setAt] using hs.wf.len, fun _ _ => trivial, fun s hs' => ?_, hs.wf.nodup, fun n hn => ?_, fun i v hv => ?_⟩
    · simp only [SlabSt.setAt] at hs'
      rcases List.mem_or_eq_of_mem_set hs' with h | rfl
      · exact hs.wf.counts s h
      · exact hcm
    · obtain ⟨q1, v, q2⟩ := hs.wf.free n hn
      refine ⟨q1, v, ?_⟩
      simp only [SlabSt.setAt, show ((m : Int) + 1 - 1).toNat = m by omega]
      by_cases hmn : m = n - 1
      · subst hmn; rw [hm] at q2; cases q2; exact absurd rfl h0
      · rw [List.getElem?_set_ne hmn]; exact q2
    · simp only [SlabSt.setAt, show ((m : Int) + 1 - 1).toNat = m by omega] at hv
      by_cases hmn : m = i
      · subst hmn; rw [List.getElem?_set_self hlt] at hv; cases hv; exact absurd rfl hc
      · rw [List.getElem?_set_ne hmn] at hv; exact hs.wf.freed i v hv
  · intro k z hz
    rw [hsd]
    rw [hget] at hz
    by_cases hk' : k = m + 1
    · rw [if_pos hk'] at hz; cases hz; subst hk'
      have := hs.counts _ _ hx
      simp only
      omega
    · rw [if_neg hk'] at hz; rw [hp k hk']; exact hs.counts k z hz
  · intro k z hz
    rw [hget] at hz
    by_cases hk' : k = m + 1
    · rw [if_pos hk'] at hz; cases hz; exact hh
    · rw [if_neg hk'] at hz; exact hs.held k z hz
  · intro k z hz h1
    obtain ⟨z', q1, q2, q3, q4⟩ := hback k z hz
    obtain ⟨u, q5, q6⟩ := hs.left k z' q1 (by rw [← q2]; exact h1)
    obtain ⟨u', q7, q8⟩ := hlive _ u q5
    exact ⟨u', by rw [q2]; exact q7, by rw [q4, q8]; exact q6⟩
  · intro k z hz h1
    obtain ⟨z', q1, q2, q3, q4⟩ := hback k z hz
    obtain ⟨u, q5, q6⟩ := hs.right k z' q1 (by rw [← q3]; exact h1)
    obtain ⟨u', q7, q8⟩ := hlive _ u q5
    exact ⟨u', by rw [q3]; exact q7, by rw [q4, q8]; exact q6⟩
  · intro p hp'
    by_cases hk' : p = m + 1
    · subst hk'; exact ⟨_, by rw [hget, if_pos rfl]⟩
    · have h1 : p ∈ pile := List.count_pos_iff.1 (by rw [← hp p hk']; exact List.count_pos_iff.2 hp')
      obtain ⟨u, hu⟩ := hs.pile p h1
      exact ⟨u, by rw [hget, if_neg hk']; exact hu⟩

theorem refs_pile (n : Nd) (st : List Int) (k : Int) (hk : k ≠ 0) : (pile n st).count k = refs n k + st.count k := by
  unfold pile refs
  rw [List.count_append, List.count_append]
  by_cases hl : n.left = 0 <;> by_cases hr : n.right = 0
  · simp [hl, hr, Ne.symm hk]
  · simp [hl, hr, Ne.symm hk, List.count_cons]
  · simp [hl, hr, Ne.symm hk, List.count_cons]
  · simp [hl, hr, List.count_cons]; omega
theorem mem_pile {n : Nd} {st : List Int} {p : Int} (h : p ∈ pile n st) : (p = n.left ∧ n.left ≠ 0) ∨ (p = n.right ∧ n.right ≠ 0) ∨ p ∈ st := by
  unfold pile at h
  simp only [List.mem_append] at h
  rcases h with h | h | h
  · by_cases hl : n.left = 0
    · simp [hl] at h
    · rw [if_neg hl] at h; exact .inl ⟨by simpa using h, hl⟩
  · by_cases hl : n.right = 0
    · simp [hl] at h
    · rw [if_neg hl] at h; exact .inr (.inl ⟨by simpa using h, hl⟩)
  · exact .inr (.inr h)
/-- A last count is dropped: the node is free, its sides come onto the pile. -/
theorem Sound.free {σ : SlabSt Nd} {rest : List Int} {h : Int} (hs : Sound σ (h :: rest)) {x : Nd × Nat} (hx : σ.get? h = some x) (h1 : x.2 = 1) :
    Sound { σ.setAt h (Nd.zero, 0) with free := σ.free ++ [h.toNat] } (Store.pile x.1 rest) := by
  have hc := hs.counts h x hx
  have hh := hs.held h x hx
  rw [h1, List.count_cons_self] at hc
  have hh0 : x.1.held = 0 := by omega
  have hs0 : sides σ h = 0 := by omega
  have hr0 : rest.count h = 0 := by omega
  obtain ⟨m, rfl, hm, h0, hlt⟩ := SlabSt.get?_some hx
  have hget : ∀ k, ({ σ.setAt ((m : Int) + 1) (Nd.zero, 0) with free := σ.free ++ [((m : Int) + 1).toNat] } : SlabSt Nd).get? k = if k = m + 1 then none else σ.get? k := fun k => by
    have := get_set hlt (Nd.zero, 0) (σ.free ++ [((m : Int) + 1).toNat]) k
    simp only [SlabSt.setAt, show ((m : Int) + 1 - 1).toNat = m by omega]
    simpa using this
  have hsd : ∀ k, sides ({ σ.setAt ((m : Int) + 1) (Nd.zero, 0) with free := σ.free ++ [((m : Int) + 1).toNat] } : SlabSt Nd) k + refs x.1 k = sides σ k := fun k => by
    have q1 := sides_set hm (Nd.zero, 0) k (σ.free ++ [((m : Int) + 1).toNat])
    have q2 : part x k = refs x.1 k := by simp [part, h0]
    have q3 : part (Nd.zero, 0) k = 0 := by simp [part]
    simp only [SlabSt.setAt, show ((m : Int) + 1 - 1).toNat = m by omega]
    omega
  have hno : ∀ (k : Int) z, σ.get? k = some z → z.1.left ≠ m + 1 ∧ z.1.right ≠ m + 1 := fun k z hz => by
    obtain ⟨m', rfl, hm', h0', hlt'⟩ := SlabSt.get?_some hz
    have q : part z ((m : Int) + 1) = 0 := by
      have := sides_set hm' (Nd.zero, 0) ((m : Int) + 1) []
      have q3 : part (Nd.zero, 0) ((m : Int) + 1) = 0 := by simp [part]
      omega
    simp only [part, h0', if_false, refs] at q
    constructor
    · intro e; simp [e] at q
    · intro e; simp [e] at q
  have hlive : ∀ (k : Int) z, k ≠ m + 1 → σ.get? k = some z → ({ σ.setAt ((m : Int) + 1) (Nd.zero, 0) with free := σ.free ++ [((m : Int) + 1).toNat] } : SlabSt Nd).get? k = some z := fun k z hk hz => by
    rw [hget, if_neg hk]; exact hz
  have hback : ∀ (k : Int) z, ({ σ.setAt ((m : Int) + 1) (Nd.zero, 0) with free := σ.free ++ [((m : Int) + 1).toNat] } : SlabSt Nd).get? k = some z → k ≠ m + 1 ∧ σ.get? k = some z := fun k z hz => by
    rw [hget] at hz
    by_cases hk : k = m + 1
    · rw [if_pos hk] at hz; cases hz
    · rw [if_neg hk] at hz; exact ⟨hk, hz⟩
  refine ⟨?_, ?_, ?_, ?_, ?_, ?_⟩
  · have hnf : m + 1 ∉ σ.free := fun hn => by
      obtain ⟨q1, v, q2⟩ := hs.wf.free _ hn
      rw [show m + 1 - 1 = m by omega, hm] at q2
      cases q2
      exact h0 rfl
    refine ⟨hs.wf.room, by simpa [SlabSt.setAt] using hs.wf.len, fun _ _ => trivial, fun s hs' => ?_, ?_, fun n hn => ?_, fun i v hv => ?_⟩
    · simp only [SlabSt.setAt] at hs'
      rcases List.mem_or_eq_of_mem_set hs' with h | rfl
      · exact hs.wf.counts s h
      · exact Nat.zero_le _
    · rw [show ((m : Int) + 1).toNat = m + 1 by omega]
      refine List.nodup_append.2 ⟨hs.wf.nodup, List.nodup_cons.2 ⟨by simp, List.nodup_nil⟩, fun a ha b hb => ?_⟩
      rw [List.mem_singleton.1 hb]
      intro e
      exact hnf (e ▸ ha)
    · rw [show ((m : Int) + 1).toNat = m + 1 by omega] at hn
      simp only [SlabSt.setAt, show ((m : Int) + 1 - 1).toNat = m by omega]
      rcases List.mem_append.1 hn with hn | hn
      · obtain ⟨q1, v, q2⟩ := hs.wf.free n hn
        refine ⟨q1, v, ?_⟩
        by_cases hmn : m = n - 1
        · subst hmn; rw [hm] at q2; cases q2; exact absurd rfl h0
        · rw [List.getElem?_set_ne hmn]; exact q2
      · rw [List.mem_singleton.1 hn]
        refine ⟨by omega, Nd.zero, ?_⟩
        rw [show m + 1 - 1 = m by omega, List.getElem?_set_self hlt]
    · simp only [SlabSt.setAt, show ((m : Int) + 1 - 1).toNat = m by omega] at hv
      rw [show ((m : Int) + 1).toNat = m + 1 by omega]
      by_cases hmn : m = i
      · subst hmn; exact List.mem_append.2 (.inr (List.mem_singleton.2 rfl))
      · rw [List.getElem?_set_ne hmn] at hv; exact List.mem_append.2 (.inl (hs.wf.freed i v hv))
  · intro k z hz
    obtain ⟨hk, hz'⟩ := hback k z hz
    obtain ⟨m', hm', _, _, _⟩ := SlabSt.get?_some hz'
    have q1 := hs.counts k z hz'
    have q2 := hsd k
    rw [refs_pile _ _ _ (by omega)]
    rw [List.count_cons_of_ne (Ne.symm hk)] at q1
    have q2' : sides _ k = _ := q2.symm
    rw [q2'] at q1
    push_cast at q1 ⊢
    omega
  · intro k z hz
    exact hs.held k z (hback k z hz).2
  · intro k z hz hl
    obtain ⟨hk, hz'⟩ := hback k z hz
    obtain ⟨u, q1, q2⟩ := hs.left k z hz' hl
    exact ⟨u, hlive _ _ (hno k z hz').1 q1, q2⟩
  · intro k z hz hl
    obtain ⟨hk, hz'⟩ := hback k z hz
    obtain ⟨u, q1, q2⟩ := hs.right k z hz' hl
    exact ⟨u, hlive _ _ (hno k z hz').2 q1, q2⟩
  · intro p hp
    rcases mem_pile hp with ⟨rfl, hl⟩ | ⟨rfl, hl⟩ | hp
    · obtain ⟨u, q1, q2⟩ := hs.left _ x hx hl
      exact ⟨u, hlive _ _ (hno _ x hx).1 q1⟩
    · obtain ⟨u, q1, q2⟩ := hs.right _ x hx hl
      exact ⟨u, hlive _ _ (hno _ x hx).2 q1⟩
    · obtain ⟨u, q1⟩ := hs.pile p (List.mem_cons_of_mem _ hp)
      refine ⟨u, hlive _ _ (fun e => ?_) q1⟩
      have := List.count_pos_iff.2 hp
      rw [e] at this
      omega
end Go.Proofs.Ytdgdpbmaalcedaa.Store
