/- The store, plainly: Leaf, Hold, Inner keep it sound; when nobody holds anything, nothing is there. -/
import Derived.Test.YtdgdpbmaalcedaaStoreQ
namespace Go.Proofs.Ytdgdpbmaalcedaa.Store
open Go Go.RowKit Go.Proofs.Ytdgdpbmaalcedaa Go.Proofs.Ytdgdpbmaalcedaa.ShaW Go.Proofs.Ytdgdpbmaalcedaa.Path
set_option linter.unusedVariables false

theorem Sound.new (n : Nat) (h1 : 1 ≤ n) (h2 : n ≤ 65536) : Sound ⟨n, [], []⟩ [] := by
  have hg : ∀ h, (⟨n, [], []⟩ : SlabSt Nd).get? h = none := fun h => by unfold SlabSt.get?; split <;> simp [Option.filter]
  refine ⟨⟨⟨h1, h2⟩, Nat.zero_le _, fun _ _ => trivial, fun s hs => ?_, List.nodup_nil, fun m hm => ?_, fun i v hv => ?_⟩, fun h x hx => ?_, fun h x hx => ?_, fun h x hx => ?_, fun h x hx => ?_, fun p hp => ?_⟩
  · cases hs
  · cases hm
  · simp at hv
  · rw [hg] at hx; cases hx
  · rw [hg] at hx; cases hx
  · rw [hg] at hx; cases hx
  · rw [hg] at hx; cases hx
  · cases hp
theorem bump_none {σ : SlabSt Nd} {b : Int} : bump σ 0 b = σ := rfl
theorem leafS_sound {σ : SlabSt Nd} (hs : Sound σ []) (key value : List UInt8) (v : Value) : Sound (leafS σ key value v).2.2 [] := by
  unfold leafS
  split
  · exact hs
  · by_cases h0 : (σ.take (Nd.leaf (Tag.leafD key (Tag.valueD value)) key (Tag.valueD value) value v)).2.1 = 0
    · exact hs.take (x := Nd.leaf (Tag.leafD key (Tag.valueD value)) key (Tag.valueD value) value v) rfl (fun h => absurd rfl h) (fun h => absurd rfl h) (fun h => absurd rfl h) h0
    · rcases take_cases hs.wf (Nd.leaf (Tag.leafD key (Tag.valueD value)) key (Tag.valueD value) value v) with ⟨h1, h2⟩ | ⟨m, h1, h2, _⟩
      · rw [h2]; exact hs
      · exact absurd h2 h0
theorem holdS_sound {σ : SlabSt Nd} (hs : Sound σ []) (h : Int) : Sound (holdS σ h).2 [] := by
  unfold holdS
  split
  · rename_i he
    cases hx : σ.get? h with
    | none => unfold SlabSt.hold at he; rw [hx] at he; simp at he
    | some x =>
      obtain ⟨m, rfl, hm, h0, hlt⟩ := SlabSt.get?_some hx
      have hc := hs.wf.counts x (List.mem_of_getElem? hm)
      have hq := hs.counts _ x hx
      have hh := hs.held _ x hx
      have hn : x.2 ≠ 1073741824 := fun e => by unfold SlabSt.hold at he; rw [hx] at he; simp [e] at he
      have hst : (σ.hold ((m : Int) + 1)).2 = σ.setAt ((m : Int) + 1) (x.1, x.2 + 1) := by unfold SlabSt.hold; rw [hx]; simp only [if_neg hn]
      rw [hst]
      have h1 : Sound (σ.setAt ((m : Int) + 1) (x.1, x.2 + 1)) [(m : Int) + 1] := by
        refine hs.put hx (by omega) (by omega) rfl rfl rfl hh ?_ (fun k hk => by simp [Ne.symm hk])
        simp
        omega
      have hx' : (σ.setAt ((m : Int) + 1) (x.1, x.2 + 1)).get? ((m : Int) + 1) = some (x.1, x.2 + 1) := by
        have := get_set hlt (x.1, x.2 + 1) σ.free ((m : Int) + 1)
        rw [if_pos rfl, if_neg (show ¬ ((x.1, x.2 + 1) : Nd × Nat).2 = 0 by simp)] at this
        simp only [SlabSt.setAt, show ((m : Int) + 1 - 1).toNat = m by omega]
        exact this
      exact h1.bump hx' (by omega) (by simp only; omega) (by simp) (fun k hk => by simp [Ne.symm hk])
  · exact hs
theorem fitB_rank {n : Nd} {d b : Int} (h : fitB n d b = true) (hd : d ≤ 255) : d < rank n ∧ bit n.key d = b := by
  unfold fitB unfit at h
  by_cases hk : n.kind = 2
  · by_cases hx : n.depth = d + 1
    · simp [hk, hx] at h
      exact ⟨by unfold rank; rw [if_pos hk]; omega, h⟩
    · simp [hk, hx] at h
  · simp [hk] at h
    exact ⟨by unfold rank; rw [if_neg hk]; omega, h⟩
theorem innerS_sound {σ : SlabSt Nd} (hs : Sound σ []) (d l r : Int) : Sound (innerS σ d l r).2.2 [] := by
  unfold innerS
  split
  · exact hs
  · split
    · exact hs
    · split
      · exact hs
      · split
        · exact hs
        · rename_i h1 h2 h3 h4
          have h4 : (σ.take (innerNd σ d l r)).2.1 = 0 := by simpa using h4
          have h3 : fitsB d l r (nd σ l) (nd σ r) = true := by simpa using h3
          obtain ⟨hl, hr⟩ := not_or.1 h2
          have there : ∀ k, k ≠ 0 → ¬ sideBad σ k → ∃ y, σ.get? k = some y ∧ nd σ k = y.1 ∧ 1 ≤ y.1.held := fun k hk hb => by
            cases hx : σ.get? k with
            | none => exact absurd ⟨hk, .inl (has_none hx)⟩ hb
            | some y =>
              refine ⟨y, rfl, nd_some hx, ?_⟩
              have h5 := hs.held k y hx
              have h6 : y.1.held ≠ 0 := fun e => hb ⟨hk, .inr (by rw [nd_some hx]; exact e)⟩
              omega
          unfold fitsB at h3
          refine hs.take (x := innerNd σ d l r) rfl ?_ ?_ ?_ h4
          · intro hl0
            change l ≠ 0 at hl0
            obtain ⟨y, q1, q2, q3⟩ := there l hl0 hl
            refine ⟨y, q1, ?_, q3⟩
            rw [if_neg hl0] at h3
            have hf : fitB (nd σ l) d 0 = true := by
              split at h3
              · simp at h3; exact h3.2
              · simp at h3; exact h3.1
            rw [q2] at hf
            exact (fitB_rank hf (by omega)).1
          · intro hr0
            change r ≠ 0 at hr0
            obtain ⟨y, q1, q2, q3⟩ := there r hr0 hr
            refine ⟨y, q1, ?_, q3⟩
            have hf : fitB (nd σ r) d 1 = true := by
              split at h3
              · simp at h3; exact h3.2
              · simp at h3; exact h3.2.1
            rw [q2] at hf
            exact (fitB_rank hf (by omega)).1
          · intro hl0 hlr
            change l ≠ 0 at hl0
            change l = r at hlr
            subst hlr
            rw [if_neg hl0, if_neg hl0] at h3
            simp at h3
            have h5 := (fitB_rank h3.1 (by omega)).2
            have h6 := (fitB_rank h3.2.1 (by omega)).2
            omega

/-- The least rank of some. -/
theorem least : ∀ (l : List (Nd × Nat)), (∃ x ∈ l, x.2 ≠ 0) → ∃ x ∈ l, x.2 ≠ 0 ∧ ∀ y ∈ l, y.2 ≠ 0 → rank x.1 ≤ rank y.1
  | [], ⟨x, hx, _⟩ => by cases hx
  | a :: l, h => by
    by_cases hl : ∃ x ∈ l, x.2 ≠ 0
    · obtain ⟨x, hx, h0, hm⟩ := least l hl
      by_cases ha : a.2 ≠ 0 ∧ rank a.1 ≤ rank x.1
      · refine ⟨a, List.mem_cons_self .., ha.1, fun y hy h1 => ?_⟩
        rcases List.mem_cons.1 hy with rfl | hy
        · exact Int.le_refl _
        · have := hm y hy h1; omega
      · refine ⟨x, List.mem_cons_of_mem _ hx, h0, fun y hy h1 => ?_⟩
        rcases List.mem_cons.1 hy with rfl | hy
        · have := not_and.1 ha h1; omega
        · exact hm y hy h1
    · obtain ⟨x, hx, h0⟩ := h
      rcases List.mem_cons.1 hx with rfl | hx
      · exact ⟨x, List.mem_cons_self .., h0, fun y hy h1 => by
          rcases List.mem_cons.1 hy with rfl | hy
          · exact Int.le_refl _
          · exact absurd ⟨y, hy, h1⟩ hl⟩
      · exact absurd ⟨x, hx, h0⟩ hl
/-- When nobody holds anything, nothing is there. -/
theorem Sound.empty {σ : SlabSt Nd} (hs : Sound σ []) (h : ∀ k x, σ.get? k = some x → x.1.held ≤ 0) : live σ = 0 := by
  by_cases hl : live σ = 0
  · exact hl
  · exfalso
    have h1 : ∃ x ∈ σ.slots, x.2 ≠ 0 := by
      have : 0 < σ.slots.countP (fun s => s.2 != 0) := Nat.pos_of_ne_zero hl
      obtain ⟨x, hx, h0⟩ := List.countP_pos_iff.1 this
      exact ⟨x, hx, by simpa using h0⟩
    obtain ⟨x, hx, h0, hm⟩ := least _ h1
    obtain ⟨m, hm'⟩ := List.getElem?_of_mem hx
    have hg := SlabSt.get?_of hm' h0
    have hc := hs.counts _ x hg
    have hh := h _ x hg
    have hh0 := hs.held _ x hg
    have hsd : sides σ ((m : Int) + 1) ≠ 0 := by simp at hc; omega
    obtain ⟨k, y, hy, hlr⟩ := sides_some hsd
    obtain ⟨j, rfl, hj, j0, jlt⟩ := SlabSt.get?_some hy
    have hle := hm y (List.mem_of_getElem? hj) j0
    rcases hlr with hl | hr
    · obtain ⟨z, hz, hr⟩ := hs.left _ y hy (by rw [hl]; omega)
      rw [hl, hg] at hz
      cases hz
      omega
    · obtain ⟨z, hz, hr'⟩ := hs.right _ y hy (by rw [hr]; omega)
      rw [hr, hg] at hz
      cases hz
      omega
theorem nodup_map {f : Nat → Nat} : ∀ (l : List Nat), l.Nodup → (∀ a ∈ l, ∀ b ∈ l, f a = f b → a = b) → (l.map f).Nodup
  | [], _, _ => List.nodup_nil
  | a :: l, h, hi => by
    obtain ⟨h1, h2⟩ := List.nodup_cons.1 h
    refine List.nodup_cons.2 ⟨fun hm => ?_, nodup_map l h2 (fun x hx y hy => hi x (List.mem_cons_of_mem _ hx) y (List.mem_cons_of_mem _ hy))⟩
    obtain ⟨b, hb, e⟩ := List.mem_map.1 hm
    have := hi b (List.mem_cons_of_mem _ hb) a (List.mem_cons_self ..) e
    exact h1 (this ▸ hb)
theorem count_split : ∀ (l : List (Nd × Nat)), l.length = l.countP (fun s => s.2 != 0) + l.countP (fun s => s.2 == 0)
  | [] => rfl
  | a :: l => by
    have := count_split l
    simp only [List.length_cons, List.countP_cons]
    by_cases h : a.2 = 0 <;> simp [h] <;> omega
theorem zero_places : ∀ (l : List (Nd × Nat)), ((List.range l.length).filter (fun i => (l[i]?.map (·.2)) == some 0)).length = l.countP (fun s => s.2 == 0)
  | [] => rfl
  | a :: l => by
    have ih := zero_places l
    have e : ((fun i => ((a :: l)[i]?.map (·.2)) == some 0) ∘ Nat.succ) = (fun i => (l[i]?.map (·.2)) == some 0) := by funext i; simp
    rw [List.length_cons, List.range_succ_eq_map, List.filter_cons, List.filter_map, e, List.countP_cons, ← ih]
    by_cases h : a.2 = 0 <;> simp [h]
/-- How many are there, by the slab's own reckoning. -/
theorem live_used {σ : SlabSt Nd} (hw : σ.WF (fun _ => True)) : σ.used = live σ := by
  have hsplit := count_split σ.slots
  have hfree : σ.free.length = σ.slots.countP (fun s => s.2 == 0) := by
    rw [← zero_places]
    refine Nat.le_antisymm ?_ ?_
    · have hnd : (σ.free.map (fun n => n - 1)).Nodup := nodup_map _ hw.nodup (fun a ha b hb e => by
        obtain ⟨p, _⟩ := hw.free a ha
        obtain ⟨q, _⟩ := hw.free b hb
        omega)
      have h1 := nodup_length_le _ ((List.range σ.slots.length).filter (fun i => (σ.slots[i]?.map (·.2)) == some 0)) hnd (fun x hx => by
        obtain ⟨n, hn, rfl⟩ := List.mem_map.1 hx
        obtain ⟨p, v, hv⟩ := hw.free n hn
        refine List.mem_filter.2 ⟨List.mem_range.2 (List.getElem?_eq_some_iff.1 hv).1, ?_⟩
        rw [hv]; rfl)
      simpa using h1
    · have hnd : (((List.range σ.slots.length).filter (fun i => (σ.slots[i]?.map (·.2)) == some 0)).map (fun n => n + 1)).Nodup :=
        nodup_map _ (List.Pairwise.filter _ List.nodup_range) (fun a _ b _ e => by simpa using e)
      have h1 := nodup_length_le _ σ.free hnd (fun x hx => by
        obtain ⟨n, hn, rfl⟩ := List.mem_map.1 hx
        obtain ⟨p, q⟩ := List.mem_filter.1 hn
        have hlt := List.mem_range.1 p
        rw [List.getElem?_eq_getElem hlt] at q
        simp at q
        exact hw.freed n (σ.slots[n]).1 (by rw [List.getElem?_eq_getElem hlt, ← q]))
      simpa using h1
  unfold SlabSt.used live
  omega
/-- The handles of what is there. -/
theorem mem_occ {σ : SlabSt Nd} : ∀ (k n : Nat), n ∈ σ.occ k ↔ 1 ≤ n ∧ n ≤ k ∧ ∃ x, σ.get? n = some x
  | 0, n => by simp [SlabSt.occ]; omega
  | k + 1, n => by
    cases hx : σ.get? ((k : Int) + 1) with
    | none =>
      rw [SlabSt.occ_none hx, mem_occ k n]
      constructor
      · rintro ⟨h1, h2, h3⟩; exact ⟨h1, by omega, h3⟩
      · rintro ⟨h1, h2, y, h3⟩
        refine ⟨h1, ?_, y, h3⟩
        by_cases e : n = k + 1
        · subst e; rw [show ((k + 1 : Nat) : Int) = (k : Int) + 1 by omega, hx] at h3; cases h3
        · omega
    | some x =>
      rw [SlabSt.occ_some hx, List.mem_append, mem_occ k n, List.mem_singleton]
      constructor
      · rintro (⟨h1, h2, h3⟩ | rfl)
        · exact ⟨h1, by omega, h3⟩
        · exact ⟨by omega, by omega, x, by rw [show ((k + 1 : Nat) : Int) = (k : Int) + 1 by omega]; exact hx⟩
      · rintro ⟨h1, h2, h3⟩
        by_cases e : n = k + 1
        · exact .inr e
        · exact .inl ⟨h1, by omega, h3⟩
theorem mem_handles {σ : SlabSt Nd} (n : Int) : (∃ x, σ.get? n = some x) ↔ ∃ m ∈ handles σ, n = (m : Nat) := by
  unfold handles
  constructor
  · rintro ⟨x, hx⟩
    obtain ⟨m, rfl, hm, _, hlt⟩ := SlabSt.get?_some hx
    exact ⟨m + 1, (mem_occ _ _).2 ⟨by omega, by omega, x, by rw [show ((m + 1 : Nat) : Int) = (m : Int) + 1 by omega]; exact hx⟩, by omega⟩
  · rintro ⟨m, hm, rfl⟩
    exact ((mem_occ _ _).1 hm).2.2
theorem handles_length {σ : SlabSt Nd} : (handles σ).length = live σ := by
  have : ∀ k, k ≤ σ.slots.length → (σ.occ k).length = (σ.slots.take k).countP (fun s => s.2 != 0) := fun k => by
    induction k with
    | zero => intro _; simp [SlabSt.occ]
    | succ k ih =>
      intro hk
      have hlt : k < σ.slots.length := by omega
      rw [List.take_add_one, List.getElem?_eq_getElem hlt, List.countP_append, ← ih (by omega)]
      by_cases h0 : (σ.slots[k]).2 = 0
      · have hx : σ.get? ((k : Int) + 1) = none := by
          unfold SlabSt.get?
          rw [if_pos (by omega), show ((k : Int) + 1 - 1).toNat = k by omega, List.getElem?_eq_getElem hlt]
          simp [Option.filter, h0]
        rw [SlabSt.occ_none hx]
        simp [h0]
      · have hx := SlabSt.get?_of (List.getElem?_eq_getElem hlt) h0
        rw [SlabSt.occ_some hx]
        simp [h0]
  unfold handles
  rw [this _ (Nat.le_refl _), List.take_length]
  rfl
end Go.Proofs.Ytdgdpbmaalcedaa.Store
