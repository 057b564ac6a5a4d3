/- The store, plainly: every call keeps it sound; when nobody holds anything, nothing is there. -/
import Derived.Test.YtdgdpbmaalcedaaStoreP
namespace Go.Proofs.Ytdgdpbmaalcedaa.Store
open Go Go.RowKit Go.Proofs.Ytdgdpbmaalcedaa Go.Proofs.Ytdgdpbmaalcedaa.ShaW Go.Proofs.Ytdgdpbmaalcedaa.Path
set_option linter.unusedVariables false

theorem nd_some {σ : SlabSt Nd} {h : Int} {x : Nd × Nat} (hx : σ.get? h = some x) : nd σ h = x.1 := by unfold nd; rw [hx]; rfl
theorem nd_none {σ : SlabSt Nd} {h : Int} (hx : σ.get? h = none) : nd σ h = Nd.zero := by unfold nd; rw [hx]; rfl
theorem has_some {σ : SlabSt Nd} {h : Int} {x : Nd × Nat} (hx : σ.get? h = some x) : has σ h = true := by unfold has; rw [hx]; rfl
theorem has_none {σ : SlabSt Nd} {h : Int} (hx : σ.get? h = none) : has σ h = false := by unfold has; rw [hx]; rfl
theorem get_ne {σ : SlabSt Nd} {h : Int} {x : Nd × Nat} (hx : σ.get? h = some x) : h ≠ 0 := by
  obtain ⟨m, rfl, _⟩ := SlabSt.get?_some hx; omega
/-- How often callers hold a node changes by b (which may go to the pile). -/
theorem Sound.bump {σ : SlabSt Nd} {pile pile' : List Int} (hs : Sound σ pile) {h : Int} {x : Nd × Nat} (hx : σ.get? h = some x) {b : Int} (hb : -1 ≤ b ∧ b ≤ 1) (hh : 0 ≤ x.1.held + b) (he : (pile.count h : Int) = pile'.count h + b)
    (hp : ∀ k, k ≠ h → pile'.count k = pile.count k) : Sound (bump σ h b) pile' := by
  obtain ⟨m, hm, hm1, h0, hlt⟩ := SlabSt.get?_some hx
  have hc := hs.wf.counts x (List.mem_of_getElem? hm1)
  have hq := hs.counts h x hx
  have hw : wrap64 (x.1.held + b) = x.1.held + b := by unfold wrap64; omega
  unfold Store.bump
  rw [if_pos (has_some hx), nd_some hx, hw]
  unfold SlabSt.set
  rw [hx]
  refine hs.put hx h0 hc rfl rfl rfl hh ?_ hp
  simp only [withHeld]
  omega
theorem Sound.perm {σ : SlabSt Nd} {pile pile' : List Int} (hs : Sound σ pile) (hp : ∀ k, pile'.count k = pile.count k) : Sound σ pile' :=
  ⟨hs.wf, fun h x hx => by rw [hp]; exact hs.counts h x hx, hs.held, hs.left, hs.right, fun p hp' => hs.pile p (List.count_pos_iff.1 (by rw [← hp]; exact List.count_pos_iff.2 hp'))⟩

/-- What a drop leaves is what was there. -/
theorem drop_get {σ : SlabSt Nd} {h k : Int} {y : Nd × Nat} (hy : (σ.drop Nd.zero h).2.2.get? k = some y) : ∃ c, σ.get? k = some (y.1, c) := by
  cases hx : σ.get? h with
  | none => rw [drop_absent hx] at hy; exact ⟨y.2, hy⟩
  | some x =>
    obtain ⟨m, rfl, hm, h0, hlt⟩ := SlabSt.get?_some hx
    unfold SlabSt.drop at hy
    rw [hx] at hy
    simp only at hy
    by_cases h1 : x.2 = 1
    · rw [if_pos h1] at hy
      have := get_set hlt (Nd.zero, 0) (σ.free ++ [((m : Int) + 1).toNat]) k
      simp only [SlabSt.setAt, show ((m : Int) + 1 - 1).toNat = m by omega] at hy
      rw [this] at hy
      by_cases hk : k = m + 1
      · rw [if_pos hk] at hy; cases hy
      · rw [if_neg hk] at hy; exact ⟨y.2, hy⟩
    · rw [if_neg h1] at hy
      have := get_set hlt (x.1, x.2 - 1) σ.free k
      simp only [SlabSt.setAt, show ((m : Int) + 1 - 1).toNat = m by omega] at hy
      rw [this] at hy
      by_cases hk : k = m + 1
      · rw [if_pos hk] at hy
        split at hy
        · cases hy
        · cases hy; subst hk; exact ⟨x.2, hx⟩
      · rw [if_neg hk] at hy; exact ⟨y.2, hy⟩
theorem Sound.dropped {σ : SlabSt Nd} {rest : List Int} {h : Int} (hs : Sound σ (h :: rest)) :
    if (σ.drop Nd.zero h).1 = true then Sound (σ.drop Nd.zero h).2.2 (Store.pile (nd σ h) rest) else Sound (σ.drop Nd.zero h).2.2 rest := by
  obtain ⟨x, hx⟩ := hs.pile h (List.mem_cons_self ..)
  obtain ⟨m, hm, hm1, h0, hlt⟩ := SlabSt.get?_some hx
  have hc := hs.wf.counts x (List.mem_of_getElem? hm1)
  by_cases h1 : x.2 = 1
  · have hd : σ.drop Nd.zero h = (true, 0, { σ.setAt h (Nd.zero, 0) with free := σ.free ++ [h.toNat] }) := by unfold SlabSt.drop; rw [hx]; simp only [if_pos h1]
    rw [hd, if_pos rfl, nd_some hx]
    exact hs.free hx h1
  · have hd : σ.drop Nd.zero h = (false, 0, σ.setAt h (x.1, x.2 - 1)) := by unfold SlabSt.drop; rw [hx]; simp only [if_neg h1]
    rw [hd, if_neg (by simp)]
    refine hs.put hx (by omega) (by omega) rfl rfl rfl (hs.held h x hx) ?_ (fun k hk => (List.count_cons_of_ne (Ne.symm hk)).symm)
    rw [List.count_cons_self]
    omega
theorem sweep_sound (σ : SlabSt Nd) (st : List Int) (f : Nat) (hs : Sound σ st) : Sound (sweep σ st f).2 [] ∧ (sweep σ st f).1 + live (sweep σ st f).2 = f + live σ ∧ total (sweep σ st f).2 ≤ total σ ∧
    (∀ k y, (sweep σ st f).2.get? k = some y → ∃ c, σ.get? k = some (y.1, c)) := by
  induction σ, st, f using sweep.induct with
  | case1 σ f => rw [sweep_nil]; exact ⟨hs, rfl, Nat.le_refl _, fun k y hy => ⟨y.2, hy⟩⟩
  | case2 σ f h rest hd ih =>
    rw [sweep_free hd]
    have h1 := hs.dropped
    rw [if_pos hd] at h1
    obtain ⟨q1, q2, q3, q4⟩ := ih h1
    have h2 := drop_live hd
    obtain ⟨x, hx, _⟩ := drop_freed hd
    have h3 := drop_total hx
    exact ⟨q1, by omega, by omega, fun k y hy => by obtain ⟨c, hc⟩ := q4 k y hy; exact drop_get (y := (y.1, c)) hc⟩
  | case3 σ f h rest hd ih =>
    have hd : (σ.drop Nd.zero h).1 = false := by simpa using hd
    rw [sweep_keep hd]
    have h1 := hs.dropped
    rw [if_neg (by rw [hd]; simp)] at h1
    obtain ⟨q1, q2, q3, q4⟩ := ih h1
    have h2 := drop_kept hd
    obtain ⟨x, hx⟩ := hs.pile h (List.mem_cons_self ..)
    have h3 := drop_total hx
    exact ⟨q1, by omega, by omega, fun k y hy => by obtain ⟨c, hc⟩ := q4 k y hy; exact drop_get (y := (y.1, c)) hc⟩

theorem bump_get {σ : SlabSt Nd} {h b k : Int} {x : Nd × Nat} (hx : σ.get? h = some x) : (bump σ h b).get? k = if k = h then some (withHeld x.1 (wrap64 (x.1.held + b)), x.2) else σ.get? k := by
  obtain ⟨m, rfl, hm, h0, hlt⟩ := SlabSt.get?_some hx
  unfold Store.bump
  rw [if_pos (has_some hx), nd_some hx]
  unfold SlabSt.set
  rw [hx]
  have := get_set hlt (withHeld x.1 (wrap64 (x.1.held + b)), x.2) σ.free k
  rw [if_neg (show ¬ ((withHeld x.1 (wrap64 (x.1.held + b)), x.2) : Nd × Nat).2 = 0 from h0)] at this
  simp only [SlabSt.setAt, show ((m : Int) + 1 - 1).toNat = m by omega]
  exact this
theorem bump_total {σ : SlabSt Nd} {h b : Int} : total (bump σ h b) = total σ := by
  unfold Store.bump
  split
  · rename_i hh
    obtain ⟨x, hx⟩ : ∃ x, σ.get? h = some x := Option.isSome_iff_exists.1 hh
    obtain ⟨m, rfl, hm, h0, hlt⟩ := SlabSt.get?_some hx
    unfold SlabSt.set total
    rw [hx]
    simp only [SlabSt.setAt, show ((m : Int) + 1 - 1).toNat = m by omega, List.map_set]
    have := sum_set (σ.slots.map (·.2)) m x.2 x.2 (by simp [hm])
    omega
  · rfl
theorem bump_live {σ : SlabSt Nd} {h b : Int} : live (bump σ h b) = live σ := by
  unfold Store.bump
  split
  · rename_i hh
    obtain ⟨x, hx⟩ : ∃ x, σ.get? h = some x := Option.isSome_iff_exists.1 hh
    obtain ⟨m, rfl, hm, h0, hlt⟩ := SlabSt.get?_some hx
    unfold SlabSt.set live
    rw [hx]
    simp only [SlabSt.setAt, show ((m : Int) + 1 - 1).toNat = m by omega]
    have := countP_set (fun s : Nd × Nat => s.2 != 0) σ.slots m x (withHeld (nd σ ((m : Int) + 1)) (wrap64 ((nd σ ((m : Int) + 1)).held + b)), x.2) hm
    have h2 : (x.2 != 0) = true := by simpa using h0
    simp only [h2, if_true] at this
    omega
  · rfl
/-- Drop keeps a store sound, and takes something away. -/
theorem dropS_sound {σ : SlabSt Nd} (hs : Sound σ []) (h : Int) : Sound (dropS σ h).2.2 [] ∧ (dropS σ h).1 + live (dropS σ h).2.2 = live σ ∧ total (dropS σ h).2.2 ≤ total σ ∧
    ((nd σ h).held ≠ 0 → (dropS σ h).2.1 = 0 ∧ total (dropS σ h).2.2 < total σ) ∧ (∀ k y, (dropS σ h).2.2.get? k = some y → ∃ z, σ.get? k = some z ∧ y.1.held ≤ z.1.held) := by
  unfold dropS
  by_cases hc : has σ h = true ∧ (nd σ h).held ≠ 0
  · rw [if_pos hc]
    obtain ⟨x, hx⟩ : ∃ x, σ.get? h = some x := Option.isSome_iff_exists.1 hc.1
    have hn := nd_some hx
    have h0 := hs.held h x hx
    have hd : x.1.held ≠ 0 := by rw [← hn]; exact hc.2
    have h1 : Sound (bump σ h (-1)) [h] := hs.bump hx (by omega) (by omega) (by simp) (fun k hk => by simp [Ne.symm hk])
    obtain ⟨q1, q2, q3, q4⟩ := sweep_sound _ _ 0 h1
    have hbl : live (bump σ h (-1)) = live σ := bump_live
    have hbt : total (bump σ h (-1)) = total σ := bump_total
    refine ⟨q1, by simp only; omega, by simp only; omega, fun _ => ⟨rfl, ?_⟩, fun k y hy => ?_⟩
    · simp only
      have hx' : (bump σ h (-1)).get? h = some (withHeld x.1 (wrap64 (x.1.held + -1)), x.2) := by rw [bump_get hx, if_pos rfl]
      have ht := drop_total hx'
      have hdr := h1.dropped
      by_cases hf : ((bump σ h (-1)).drop Nd.zero h).1 = true
      · rw [sweep_free hf]
        rw [if_pos hf] at hdr
        have := (sweep_sound _ _ (0 + 1) hdr).2.2.1
        omega
      · have hf : ((bump σ h (-1)).drop Nd.zero h).1 = false := by simpa using hf
        rw [sweep_keep hf, sweep_nil]
        show total ((bump σ h (-1)).drop Nd.zero h).2.2 < total σ
        omega
    · obtain ⟨c, hy'⟩ := q4 k y hy
      rw [bump_get hx] at hy'
      by_cases hk : k = h
      · rw [if_pos hk] at hy'
        have hy1 : y.1 = withHeld x.1 (wrap64 (x.1.held + -1)) := by simpa using (congrArg (Option.map Prod.fst) hy').symm
        rw [hy1]
        subst hk
        refine ⟨x, hx, ?_⟩
        have hcq := hs.counts _ x hx
        obtain ⟨m, hm, hm1, _, _⟩ := SlabSt.get?_some hx
        have hcm := hs.wf.counts x (List.mem_of_getElem? hm1)
        have hw : wrap64 (x.1.held + -1) = x.1.held + -1 := by unfold wrap64; omega
        show wrap64 (x.1.held + -1) ≤ x.1.held
        omega
      · rw [if_neg hk] at hy'; exact ⟨_, hy', Int.le_refl _⟩
  · rw [if_neg hc]
    refine ⟨hs, by simp, Nat.le_refl _, fun h0 => ?_, fun k y hy => ⟨y, hy, Int.le_refl _⟩⟩
    cases hx : σ.get? h with
    | none => rw [nd_none hx] at h0; exact absurd rfl h0
    | some x => exact absurd ⟨has_some hx, h0⟩ hc

/-- What a take does to a store that is sound. -/
theorem take_cases {σ : SlabSt Nd} (hw : σ.WF (fun _ => True)) (x : Nd) : ((σ.take x).2.1 ≠ 0 ∧ σ.take x = (0, 9, σ)) ∨
    (∃ m : Nat, (σ.take x).1 = m + 1 ∧ (σ.take x).2.1 = 0 ∧ σ.get? (m + 1) = none ∧ (∀ k, (σ.take x).2.2.get? k = if k = m + 1 then some (x, 1) else σ.get? k) ∧ (∀ k, sides (σ.take x).2.2 k = sides σ k + refs x k) ∧
      (σ.take x).2.2.WF (fun _ => True)) := by
  unfold SlabSt.take
  by_cases hu : σ.used = σ.room
  · rw [if_pos hu]; exact .inl ⟨by simp, rfl⟩
  · rw [if_neg hu]
    right
    cases hg : σ.free.getLast? with
    | none =>
      have hfr : σ.free = [] := by simpa using hg
      simp only
      refine ⟨σ.slots.length, rfl, trivial, ?_, fun k => get_append (x, 1) σ.free (by simp) k, fun k => ?_, ?_⟩
      · unfold SlabSt.get?
        rw [if_pos (by omega), show ((σ.slots.length : Int) + 1 - 1).toNat = σ.slots.length by omega, List.getElem?_eq_none (Nat.le_refl _)]
        rfl
      · simp [sides, part]
      · have hl : σ.slots.length ≠ σ.room := by unfold SlabSt.used at hu; rw [hfr] at hu; simpa using hu
        have hl2 := hw.len
        refine ⟨hw.room, by simp; omega, fun _ _ => trivial, fun s hs => ?_, hw.nodup, fun n hn => ?_, fun i v hv => ?_⟩
        · rcases List.mem_append.1 hs with h | h
          · exact hw.counts s h
          · rw [List.mem_singleton.1 h]; show (1 : Nat) ≤ 1073741824; omega
        · simp only at hn; rw [hfr] at hn; cases hn
        · rcases Nat.lt_or_ge i σ.slots.length with hl | hl
          · rw [List.getElem?_append_left hl] at hv; exact hw.freed i v hv
          · rw [List.getElem?_append_right hl] at hv
            cases hq : i - σ.slots.length with
            | zero => rw [hq] at hv; simp at hv
            | succ k => rw [hq] at hv; simp at hv
    | some n =>
      obtain ⟨fr, hfr⟩ : ∃ fr, σ.free = fr ++ [n] := by
        have := List.getLast?_eq_some_iff.1 hg
        exact this
      have hn : n ∈ σ.free := by rw [hfr]; simp
      obtain ⟨q1, v, q2⟩ := hw.free n hn
      have hlt := (List.getElem?_eq_some_iff.1 q2).1
      obtain ⟨m, rfl⟩ : ∃ m, n = m + 1 := ⟨n - 1, by omega⟩
      simp only [show m + 1 - 1 = m by omega] at q2 hlt ⊢
      refine ⟨m, by omega, trivial, ?_, fun k => ?_, fun k => ?_, ?_⟩
      · unfold SlabSt.get?
        rw [if_pos (by omega), show ((m : Int) + 1 - 1).toNat = m by omega, q2]
        rfl
      · have := get_set hlt (x, 1) σ.free.dropLast k
        simpa using this
      · have h1 := sides_set q2 (x, 1) k σ.free.dropLast
        have h2 : part (v, 0) k = 0 := by simp [part]
        have h3 : part (x, 1) k = refs x k := by simp [part]
        omega
      · have hnd := hw.nodup
        rw [hfr] at hnd
        obtain ⟨n1, n2, n3⟩ := List.nodup_append.1 hnd
        refine ⟨hw.room, by simpa using hw.len, fun _ _ => trivial, fun s hs => ?_, ?_, fun i hi => ?_, fun i u hu => ?_⟩
        · rcases List.mem_or_eq_of_mem_set hs with h | rfl
          · exact hw.counts s h
          · show (1 : Nat) ≤ 1073741824; omega
        · rw [hfr, List.dropLast_concat]; exact n1
        · simp only at hi
          rw [hfr, List.dropLast_concat] at hi
          obtain ⟨r1, u, r2⟩ := hw.free i (by rw [hfr]; exact List.mem_append.2 (.inl hi))
          have hne : i ≠ m + 1 := n3 i hi (m + 1) (List.mem_singleton.2 rfl)
          exact ⟨r1, u, by rw [List.getElem?_set_ne (by omega)]; exact r2⟩
        · rw [hfr, List.dropLast_concat]
          by_cases hmi : m = i
          · subst hmi; rw [List.getElem?_set_self hlt] at hu; simp at hu
          · rw [List.getElem?_set_ne hmi] at hu
            have := hw.freed i u hu
            rw [hfr] at this
            rcases List.mem_append.1 this with h | h
            · exact h
            · have := List.mem_singleton.1 h; omega
theorem Sound.sides_none {σ : SlabSt Nd} {pile : List Int} (hs : Sound σ pile) {k : Int} (hk : k ≠ 0) (hn : σ.get? k = none) : sides σ k = 0 := by
  by_cases h0 : sides σ k = 0
  · exact h0
  · obtain ⟨j, x, hx, hl | hr⟩ := sides_some h0
    · obtain ⟨y, hy, _⟩ := hs.left j x hx (by rw [hl]; exact hk)
      rw [hl, hn] at hy; cases hy
    · obtain ⟨y, hy, _⟩ := hs.right j x hx (by rw [hr]; exact hk)
      rw [hr, hn] at hy; cases hy
/-- A new node is taken; its sides' counts now owe it one each. -/
theorem Sound.take {σ : SlabSt Nd} (hs : Sound σ []) {x : Nd} (hh : x.held = 1)
    (hl : x.left ≠ 0 → ∃ y, σ.get? x.left = some y ∧ rank x < rank y.1 ∧ 1 ≤ y.1.held) (hr : x.right ≠ 0 → ∃ y, σ.get? x.right = some y ∧ rank x < rank y.1 ∧ 1 ≤ y.1.held) (hlr : x.left ≠ 0 → x.left ≠ x.right)
    (h0 : (σ.take x).2.1 = 0) : Sound (Store.bump (Store.bump (σ.take x).2.2 x.left (-1)) x.right (-1)) [] := by
  rcases take_cases hs.wf x with ⟨h1, h2⟩ | ⟨m, h1, h2, h3, h4, h5, h6⟩
  · exact absurd h0 h1
  -- what is there behind the take
  obtain ⟨τ, hτ⟩ : ∃ τ, τ = (σ.take x).2.2 := ⟨_, rfl⟩
  rw [← hτ] at h4 h5 h6 ⊢
  have hne : ∀ k z, σ.get? k = some z → k ≠ m + 1 := fun k z hz e => by rw [e, h3] at hz; cases hz
  have hup : ∀ k z, σ.get? k = some z → τ.get? k = some z := fun k z hz => by rw [h4, if_neg (hne k z hz)]; exact hz
  have hnew : τ.get? (m + 1) = some (x, 1) := by rw [h4, if_pos rfl]
  have hxl : x.left ≠ m + 1 := fun e => by
    obtain ⟨y, hy, _⟩ := hl (by omega)
    exact hne _ _ hy e
  have hxr : x.right ≠ m + 1 := fun e => by
    obtain ⟨y, hy, _⟩ := hr (by omega)
    exact hne _ _ hy e
  have hs0 : sides σ (m + 1) = 0 := hs.sides_none (by omega) h3
  -- the bumps
  obtain ⟨τ1, hτ1⟩ : ∃ τ1, τ1 = Store.bump τ x.left (-1) := ⟨_, rfl⟩
  obtain ⟨τ2, hτ2⟩ : ∃ τ2, τ2 = Store.bump τ1 x.right (-1) := ⟨_, rfl⟩
  rw [← hτ1, ← hτ2]
  have hcw : ∀ k z, σ.get? k = some z → z.1.held ≤ 1073741824 := fun k z hz => by
    obtain ⟨j, hj, hj1, _, _⟩ := SlabSt.get?_some hz
    have q1 := hs.wf.counts z (List.mem_of_getElem? hj1)
    have q2 := hs.counts k z hz
    simp at q2
    omega
  have hw : ∀ k z, σ.get? k = some z → 1 ≤ z.1.held → wrap64 (z.1.held + -1) = z.1.held - 1 := fun k z hz h1 => by
    have := hcw k z hz
    unfold wrap64; omega
  have g1 : ∀ k, τ1.get? k = if k = x.left ∧ x.left ≠ 0 then (τ.get? k).map (fun z => (withHeld z.1 (wrap64 (z.1.held + -1)), z.2)) else τ.get? k := fun k => by
    by_cases hl0 : x.left = 0
    · have : τ1 = τ := by rw [hτ1, hl0]; rfl
      rw [this, if_neg (fun h => h.2 hl0)]
    · obtain ⟨y, hy, _⟩ := hl hl0
      rw [hτ1, bump_get (hup _ _ hy)]
      by_cases hk : k = x.left
      · rw [if_pos hk, if_pos ⟨hk, hl0⟩, hk, hup _ _ hy]; rfl
      · rw [if_neg hk, if_neg (fun h => hk h.1)]
  have g2 : ∀ k, τ2.get? k = if k = x.right ∧ x.right ≠ 0 then (τ1.get? k).map (fun z => (withHeld z.1 (wrap64 (z.1.held + -1)), z.2)) else τ1.get? k := fun k => by
    by_cases hl0 : x.right = 0
    · have : τ2 = τ1 := by rw [hτ2, hl0]; rfl
      rw [this, if_neg (fun h => h.2 hl0)]
    · obtain ⟨y, hy, _⟩ := hr hl0
      have hy1 : τ1.get? x.right = some y := by
        rw [g1, if_neg (fun h => hlr h.2 h.1.symm)]; exact hup _ _ hy
      rw [hτ2, bump_get hy1]
      by_cases hk : k = x.right
      · rw [if_pos hk, if_pos ⟨hk, hl0⟩, hk, hy1]; rfl
      · rw [if_neg hk, if_neg (fun h => hk h.1)]
  have hbwf : ∀ (ρ : SlabSt Nd) (k b : Int), ρ.WF (fun _ => True) → (Store.bump ρ k b).WF (fun _ => True) := fun ρ k b hρ => by
    unfold Store.bump
    split
    · rename_i hh
      obtain ⟨z, hz⟩ : ∃ z, ρ.get? k = some z := Option.isSome_iff_exists.1 hh
      obtain ⟨j, rfl, hj, j0, jlt⟩ := SlabSt.get?_some hz
      unfold SlabSt.set
      rw [hz]
      simp only [SlabSt.setAt, show ((j : Int) + 1 - 1).toNat = j by omega]
      refine ⟨hρ.room, by simpa using hρ.len, fun _ _ => trivial, fun s hs' => ?_, hρ.nodup, fun n hn => ?_, fun i v hv => ?_⟩
      · rcases List.mem_or_eq_of_mem_set hs' with h | rfl
        · exact hρ.counts s h
        · exact hρ.counts z (List.mem_of_getElem? hj)
      · obtain ⟨q1, v, q2⟩ := hρ.free n hn
        refine ⟨q1, v, ?_⟩
        by_cases hmn : j = n - 1
        · subst hmn; rw [hj] at q2; cases q2; exact absurd rfl j0
        · rw [List.getElem?_set_ne hmn]; exact q2
      · by_cases hmn : j = i
        · subst hmn; rw [List.getElem?_set_self jlt] at hv; simp at hv; exact absurd hv.2 j0
        · rw [List.getElem?_set_ne hmn] at hv; exact hρ.freed i v hv
    · exact hρ
  have hbs : ∀ (ρ : SlabSt Nd) (k b j : Int), sides (Store.bump ρ k b) j = sides ρ j := fun ρ k b j => by
    unfold Store.bump
    split
    · rename_i hh
      obtain ⟨z, hz⟩ : ∃ z, ρ.get? k = some z := Option.isSome_iff_exists.1 hh
      obtain ⟨i, rfl, hi, i0, ilt⟩ := SlabSt.get?_some hz
      rw [nd_some hz]
      unfold SlabSt.set
      rw [hz]
      simp only [SlabSt.setAt, show ((i : Int) + 1 - 1).toNat = i by omega]
      have q1 := sides_set hi (withHeld z.1 (wrap64 (z.1.held + b)), z.2) j ρ.free
      have q2 : part (withHeld z.1 (wrap64 (z.1.held + b)), z.2) j = part z j := rfl
      omega
    · rfl
  -- a node behind the bumps, by the one ahead
  have hget : ∀ k z, τ2.get? k = some z → (k = m + 1 ∧ z = (x, 1)) ∨ (k ≠ m + 1 ∧ ∃ y, σ.get? k = some y ∧ z.2 = y.2 ∧ z.1.left = y.1.left ∧ z.1.right = y.1.right ∧ rank z.1 = rank y.1 ∧ 0 ≤ z.1.held ∧ z.1.held + refs x k = y.1.held) := fun k z hz => by
    by_cases hkm : k = m + 1
    · left
      rw [g2, if_neg (fun h => hxr (h.1.symm.trans hkm)), g1, if_neg (fun h => hxl (h.1.symm.trans hkm)), hkm, hnew] at hz
      cases hz
      exact ⟨hkm, rfl⟩
    · right
      refine ⟨hkm, ?_⟩
      have hk0 : k ≠ 0 := get_ne hz
      by_cases hkr : k = x.right
      · obtain ⟨y, hy, y1, y2⟩ := hr (by omega)
        rw [← hkr] at hy
        have hkl : ¬ (k = x.left ∧ x.left ≠ 0) := fun h => hlr h.2 (by omega)
        rw [g2, if_pos ⟨hkr, by omega⟩, g1, if_neg hkl, hup _ _ hy] at hz
        cases hz
        refine ⟨y, hy, rfl, rfl, rfl, rfl, ?_, ?_⟩
        · show 0 ≤ wrap64 (y.1.held + -1)
          rw [hw _ _ hy y2]; omega
        · show wrap64 (y.1.held + -1) + _ = _
          have hxlk : x.left ≠ k := fun e => hkl ⟨e.symm, by omega⟩
          have : refs x k = 1 := by simp [refs, hxlk, ← hkr]
          rw [hw _ _ hy y2, this]; omega
      · rw [g2, if_neg (fun h => hkr h.1)] at hz
        by_cases hkl : k = x.left
        · obtain ⟨y, hy, y1, y2⟩ := hl (by omega)
          rw [← hkl] at hy
          rw [g1, if_pos ⟨hkl, by omega⟩, hup _ _ hy] at hz
          cases hz
          refine ⟨y, hy, rfl, rfl, rfl, rfl, ?_, ?_⟩
          · show 0 ≤ wrap64 (y.1.held + -1)
            rw [hw _ _ hy y2]; omega
          · show wrap64 (y.1.held + -1) + _ = _
            have : refs x k = 1 := by simp [refs, ← hkl, Ne.symm hkr]
            rw [hw _ _ hy y2, this]; omega
        · rw [g1, if_neg (fun h => hkl h.1), h4, if_neg hkm] at hz
          have : refs x k = 0 := by simp [refs, Ne.symm hkl, Ne.symm hkr]
          exact ⟨z, hz, rfl, rfl, rfl, rfl, hs.held k z hz, by rw [this]; simp⟩
  have hlive : ∀ k y, σ.get? k = some y → ∃ z, τ2.get? k = some z ∧ rank z.1 = rank y.1 := fun k y hy => by
    have h7 := hup k y hy
    rw [g2]
    split
    · rw [g1]
      split
      · rw [h7]; exact ⟨_, rfl, rfl⟩
      · rw [h7]; exact ⟨_, rfl, rfl⟩
    · rw [g1]
      split
      · rw [h7]; exact ⟨_, rfl, rfl⟩
      · rw [h7]; exact ⟨_, rfl, rfl⟩
  have hsd : ∀ k, sides τ2 k = sides σ k + refs x k := fun k => by rw [hτ2, hbs, hτ1, hbs, h5]
  refine ⟨?_, ?_, ?_, ?_, ?_, ?_⟩
  · rw [hτ2, hτ1]; exact hbwf _ _ _ (hbwf _ _ _ h6)
  · intro k z hz
    rw [hsd]
    rcases hget k z hz with ⟨rfl, rfl⟩ | ⟨hkm, y, hy, q1, q2, q3, q4, q5, q6⟩
    · have : refs x ((m : Int) + 1) = 0 := by simp [refs, hxl, hxr]
      rw [hs0, this, hh]; rfl
    · have := hs.counts k y hy
      simp at this ⊢
      omega
  · intro k z hz
    rcases hget k z hz with ⟨rfl, rfl⟩ | ⟨hkm, y, hy, q1, q2, q3, q4, q5, q6⟩
    · rw [hh]; decide
    · exact q5
  · intro k z hz h7
    rcases hget k z hz with ⟨rfl, rfl⟩ | ⟨hkm, y, hy, q1, q2, q3, q4, q5, q6⟩
    · obtain ⟨y, hy, y1, _⟩ := hl h7
      obtain ⟨u, hu, hu1⟩ := hlive _ y hy
      exact ⟨u, hu, by rw [hu1]; exact y1⟩
    · obtain ⟨u, hu, hu1⟩ := hs.left k y hy (by rw [← q2]; exact h7)
      obtain ⟨u', hu', hu2⟩ := hlive _ u hu
      exact ⟨u', by rw [q2]; exact hu', by rw [q4, hu2]; exact hu1⟩
  · intro k z hz h7
    rcases hget k z hz with ⟨rfl, rfl⟩ | ⟨hkm, y, hy, q1, q2, q3, q4, q5, q6⟩
    · obtain ⟨y, hy, y1, _⟩ := hr h7
      obtain ⟨u, hu, hu1⟩ := hlive _ y hy
      exact ⟨u, hu, by rw [hu1]; exact y1⟩
    · obtain ⟨u, hu, hu1⟩ := hs.right k y hy (by rw [← q3]; exact h7)
      obtain ⟨u', hu', hu2⟩ := hlive _ u hu
      exact ⟨u', by rw [q3]; exact hu', by rw [q4, hu2]; exact hu1⟩
  · intro p hp; cases hp
end Go.Proofs.Ytdgdpbmaalcedaa.Store
