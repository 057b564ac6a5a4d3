/- SlabScript: Slots, Len and Room of both slabs; the kit's SameInts. -/
import Derived.Test.YtdgdpbmaalcedaaActs6b
namespace Go.Proofs.Ytdgdpbmaalcedaa
open Go Go.RowKit
set_option maxHeartbeats 1600000
set_option linter.unusedVariables false

namespace SlabSt
theorem mem_occ' {α : Type} {σ : SlabSt α} : ∀ (k n : Nat), n ∈ σ.occ k ↔ 1 ≤ n ∧ n ≤ k ∧ ∃ x, σ.get? n = some x
  | 0, n => by simp [SlabSt.occ]; omega
  | k + 1, n => by
    cases hx : σ.get? ((k : Int) + 1) with
    | none =>
      rw [SlabSt.occ_none hx, mem_occ' k n]
      constructor
      · rintro ⟨h1, h2, h3⟩; exact ⟨h1, by omega, h3⟩
      · rintro ⟨h1, h2, y, h3⟩
        refine ⟨h1, ?_, y, h3⟩
        by_cases e : n = k + 1
        · subst e; rw [show ((k + 1 : Nat) : Int) = (k : Int) + 1 by omega, hx] at h3; cases h3
        · omega
    | some x =>
      rw [SlabSt.occ_some hx, List.mem_append, mem_occ' k n, List.mem_singleton]
      constructor
      · rintro (⟨h1, h2, h3⟩ | rfl)
        · exact ⟨h1, by omega, h3⟩
        · exact ⟨by omega, by omega, x, by rw [show ((k + 1 : Nat) : Int) = (k : Int) + 1 by omega]; exact hx⟩
      · rintro ⟨h1, h2, h3⟩
        by_cases e : n = k + 1
        · exact .inr e
        · exact .inl ⟨h1, by omega, h3⟩
theorem occ_nodup {α : Type} {σ : SlabSt α} : ∀ k : Nat, (σ.occ k).Nodup
  | 0 => List.nodup_nil
  | k + 1 => by
    cases hx : σ.get? ((k : Int) + 1) with
    | none => rw [SlabSt.occ_none hx]; exact occ_nodup k
    | some x =>
      rw [SlabSt.occ_some hx]
      refine List.nodup_append.2 ⟨occ_nodup k, by simp, fun a ha b hb e => ?_⟩
      rw [List.mem_singleton.1 hb] at e
      have := ((mem_occ' k a).1 ha).2.1
      omega
/-- How many are there, by the slab's own reckoning. -/
theorem occ_used {α : Type} {ok : α → Prop} {σ : SlabSt α} (hw : σ.WF ok) : (σ.occ σ.slots.length).length = σ.used := by
  obtain ⟨R, hR⟩ : ∃ R, R = (List.range σ.slots.length).map (· + 1) := ⟨_, rfl⟩
  have hRl : R.length = σ.slots.length := by rw [hR]; simp
  have hRn : R.Nodup := by
    rw [hR]
    refine List.Pairwise.map _ (fun a b h => ?_) (List.nodup_range (n := σ.slots.length))
    omega
  have hmem : ∀ x, x ∈ R ↔ 1 ≤ x ∧ x ≤ σ.slots.length := fun x => by
    rw [hR]
    simp only [List.mem_map, List.mem_range]
    constructor
    · rintro ⟨a, h1, rfl⟩; omega
    · rintro ⟨h1, h2⟩; exact ⟨x - 1, by omega, by omega⟩
  have hnd : (σ.occ σ.slots.length ++ σ.free).Nodup := by
    refine List.nodup_append.2 ⟨occ_nodup _, hw.nodup, fun a ha b hb e => ?_⟩
    subst e
    obtain ⟨h1, h2, s, hs⟩ := (mem_occ' _ _).1 ha
    obtain ⟨m, hm, hm1, h0, _⟩ := SlabSt.get?_some hs
    obtain ⟨_, v, hv⟩ := hw.free a hb
    rw [show a - 1 = m by omega, hm1] at hv
    cases hv
    exact h0 rfl
  have h1 := nodup_length_le _ R hnd (fun x hx => by
    rw [hmem]
    rcases List.mem_append.1 hx with hx | hx
    · have := (mem_occ' _ _).1 hx; exact ⟨this.1, this.2.1⟩
    · obtain ⟨p, v, hv⟩ := hw.free x hx
      have := (List.getElem?_eq_some_iff.1 hv).1
      omega)
  have h2 := nodup_length_le R (σ.occ σ.slots.length ++ σ.free) hRn (fun x hx => by
    obtain ⟨p, q⟩ := (hmem x).1 hx
    obtain ⟨s, hs⟩ : ∃ s, σ.slots[x - 1]? = some s := ⟨_, List.getElem?_eq_getElem (by omega)⟩
    by_cases h0 : s.2 = 0
    · refine List.mem_append.2 (.inr ?_)
      obtain ⟨v, c⟩ := s
      obtain rfl : c = 0 := h0
      have := hw.freed _ _ hs
      rwa [show x - 1 + 1 = x by omega] at this
    · refine List.mem_append.2 (.inl ((mem_occ' _ _).2 ⟨p, q, s, ?_⟩))
      have := SlabSt.get?_of hs h0
      rwa [show ((x - 1 : Nat) : Int) + 1 = (x : Int) by omega] at this)
  simp only [List.length_append] at h1 h2
  unfold SlabSt.used
  omega
end SlabSt

theorem own_cell' {w : World} {b n : Nat} {v : Value} {xs : List Value} (h : w.ownsRow b 3 1 v n xs) {m g c : Nat} (hv : v = .slice (some ⟨g, 0, none⟩) n c) (hm : m < n) {x : Value} (hx : xs[m]? = some x) : w.cell? ⟨g, m, none⟩ = some x := by
  obtain ⟨g', cap, cur, h1, hg, _, _, _, q⟩ := owns_block h (by omega)
  rw [hv] at h1
  cases h1
  exact row_cell hg (take_get q hx)
theorem own_where {w : World} {b n : Nat} {v : Value} {xs : List Value} (h : w.ownsRow b 3 1 v n xs) (hn : 0 < n) : ∃ g c, v = .slice (some ⟨g, 0, none⟩) n c := by
  obtain ⟨g', cap, cur, h1, hg, _, _, _, q⟩ := owns_block h hn
  exact ⟨_, _, h1⟩

set_option maxRecDepth 100000 in
/-- Two rows of the same numbers. -/
theorem SameInts_ok {w : World} {b1 b2 n : Nat} {v1 v2 : Value} {L : List Int} (h1 : w.ownsRow b1 3 1 v1 n (L.map (Value.int .i64))) (h2 : w.ownsRow b2 3 1 v2 n (L.map (Value.int .i64))) (hn : n ≤ 65536) :
    Calls Try.prog 74 #[v1, v2] w fun e w' => e = .returned (.bool true) ∧ Ref6.Adds w w' := by
  obtain ⟨a1, c1, e1⟩ := owns_form h1
  obtain ⟨a2, c2, e2⟩ := owns_form h2
  have hL : L.length = n := by have := h1.1; simpa using this
  have H := Lib.hid (And.intro h1 (And.intro h2 (And.intro e1 (And.intro e2 hL))))
  subst e1
  subst e2
  have hn' : (n : Int) ≤ 65536 := by omega
  clear h1 h2 hL
  go_enter Try.func74, Try.ntmps74
  go_wp2
  go_loopg [5] n (fun g s5 wr => ∃ k : Nat, k ≤ n ∧ g = n - k ∧ s5 = .int .i64 k ∧ Ref6.Adds w wr)
  case atStart => exact ⟨0, Nat.zero_le _, rfl, rfl, Ch.refl _ _⟩
  case round =>
    obtain ⟨k, hk, rfl, rfl, hA⟩ := hrel
    by_cases hkl : k < n
    · obtain ⟨x, hx⟩ : ∃ x, L[k]? = some x := ⟨_, List.getElem?_eq_getElem (by rw [H.out.2.2.2.2]; exact hkl)⟩
      obtain ⟨g1, d1, q1⟩ := own_where H.out.1 (by omega)
      obtain ⟨g2, d2, q2⟩ := own_where H.out.2.1 (by omega)
      have f1 := hA.cell (own_cell' H.out.1 q1 hkl (x := .int .i64 x) (by simp [hx])) id
      have f2 := hA.cell (own_cell' H.out.2.1 q2 hkl (x := .int .i64 x) (by simp [hx])) id
      cases q1
      cases q2
      have hkz : (k : Int) < (n : Int) := by omega
      have HA := Lib.hid hA
      clear hA hx
      go_wp2
      refine wp_region_plan (fun w0 => w0 = (wr).drew) 9 [(0, false), (1, false), (2, false), (3, false), (4, false), (5, false), (6, false), (7, false), (8, false)] (by kernel_rfl) (by kernel_rfl) rfl ?_
      iterate 9 refine plan_look rfl rfl (fun w0 hS => (by subst hS; go_simp; try rfl)) ?_
      refine plan_end ?_
      simp only [List.drop_succ_cons, List.drop_zero, Act.put, List.setIfInBounds_toArray, List.set_cons_succ, List.set_cons_zero]
      go_wp2
      refine NoPanic.normal ?_
      go_wp2
      go_roundg (n - (k + 1))
      case measure => omega
      case rel => exact ⟨k + 1, by omega, rfl, by go_num, HA.out.drew⟩
    · obtain rfl : k = n := by omega
      have HA := Lib.hid hA
      clear hA
      go_wp2
      go_ret
      exact ⟨rfl, HA.out⟩

section
variable {w : World} {A B : Nat} {F : Nat → Prop} {σ τ : SlabSt}
/-- The slots that hold something. -/
def SlabSt.told (σ : SlabSt) : List Int := (σ.occ σ.slots.length).map (fun n : Nat => Int.ofNat n)
theorem told_len (σ : SlabSt) : (σ.told).length = (σ.occ σ.slots.length).length := by simp [SlabSt.told]
theorem told_ints (σ : SlabSt) : ((σ.occ σ.slots.length).map fun n => Value.int .i64 (n : Nat)) = σ.told.map (Value.int .i64) := by simp [SlabSt.told]
theorem slots_s (h : PairAt w A B F σ τ) : Calls Try.prog 73 #[.pointer (some ⟨A, 0, none⟩)] w fun e w' => ∃ v, e = .returned v ∧ w'.ownsRow w.heap.size 3 1 v σ.told.length (σ.told.map (Value.int .i64)) ∧ Ref6.Adds w w' := by
  obtain ⟨F1, h1, _⟩ := h.slab
  refine (SlabI.Slots_ok h1).mono fun e w' ⟨v, he, ho, ha⟩ => ⟨v, he, ?_, ha⟩
  rw [told_len, ← told_ints]
  exact ho
theorem slots_d (h : PairAt w A B F σ τ) (hwf : τ.WF SlabI.OkV) : Calls Try.prog 75 #[.pointer (some ⟨B, 0, none⟩)] w fun e w' => ∃ v, e = .returned v ∧ w'.ownsRow w.heap.size 3 1 v τ.told.length (τ.told.map (Value.int .i64)) ∧ Ref6.Adds w w' := by
  obtain ⟨F1, h1, _⟩ := h.doc
  refine (Ref6.Slots_ok h1 (by have := hwf.len; have := hwf.room; omega)).mono fun e w' ⟨v, he, ho, ha⟩ => ⟨v, he, ?_, ha⟩
  rw [told_len, ← told_ints]
  exact ho
theorem len_s (h : PairAt w A B F σ τ) : Calls Try.prog 76 #[.pointer (some ⟨A, 0, none⟩)] w fun e w' => e = .returned (.int .i64 (σ.told.length : Nat)) ∧ w = w' := by
  obtain ⟨F1, h1, _⟩ := h.slab
  refine (SlabI.Len_ok h1).mono fun e w' ⟨he, hq⟩ => ⟨?_, hq⟩
  rw [he, told_len, SlabSt.occ_used h.wf]
theorem len_d (h : PairAt w A B F σ τ) (hwf : τ.WF SlabI.OkV) : Calls Try.prog 77 #[.pointer (some ⟨B, 0, none⟩)] w fun e w' => e = .returned (.int .i64 (τ.told.length : Nat)) ∧ Ref6.Adds w w' := by
  obtain ⟨F1, h1, _⟩ := h.doc
  refine (Ref6.Len_ok h1 (by have := hwf.len; have := hwf.room; omega)).mono fun e w' ⟨he, hq⟩ => ⟨?_, hq⟩
  rw [he, told_len]
theorem room_s (h : PairAt w A B F σ τ) : Calls Try.prog 13 #[.pointer (some ⟨A, 0, none⟩)] w fun e w' => e = .returned (.int .i64 (σ.room : Nat)) ∧ w = w' := by
  obtain ⟨F1, h1, _⟩ := h.slab
  exact SlabI.Room_ok h1
theorem room_d (h : PairAt w A B F σ τ) : Calls Try.prog 78 #[.pointer (some ⟨B, 0, none⟩)] w fun e w' => e = .returned (.int .i64 (τ.room : Nat)) ∧ w = w' := by
  obtain ⟨F1, h1, _⟩ := h.doc
  exact Ref6.Room_ok h1
end

end Go.Proofs.Ytdgdpbmaalcedaa
