/- No other trees than maps': a handle's tree is the tree of its entries. -/
import Derived.Test.YtfllneenonhonaaList1
namespace Go.Proofs.Ytfllneenonhonaa.Store
open Go Go.RowKit Go.Proofs.Ytfllneenonhonaa Go.Proofs.Ytfllneenonhonaa.ShaW Go.Proofs.Ytfllneenonhonaa.Path
set_option maxHeartbeats 1600000
set_option linter.unusedVariables false

theorem Rep.many {f : View} (hf : Fit f) {h : Int} {d : Nat} {t : Tr} (hr : Rep f h d t) : (h ≠ 0 → 1 ≤ t.ents.length) ∧ (t.isNode = true → 2 ≤ t.ents.length) ∧ (∀ n, f h = some n → (t.isNode = true ↔ n.kind = 2)) := by
  induction hr with
  | nil => exact ⟨fun h => absurd rfl h, fun h => (by cases h), fun n hn => (by rw [hf.zero] at hn; cases hn)⟩
  | leaf hn hk => exact ⟨fun _ => Nat.le_refl _, fun h => (by cases h), fun n hn' => (by rw [hn] at hn'; cases hn'; exact ⟨fun h => (by cases h), fun h => (by omega)⟩)⟩
  | @node h d n l r hn hk hd hl hr ihl ihr =>
    have hi := hf.inner hn hk
    have h2 : 2 ≤ (l.ents ++ r.ents).length := by
      rw [List.length_append]
      by_cases h0 : n.left = 0
      · obtain ⟨hr0, hk2⟩ := fits_lone_r hi.fits h0
        obtain ⟨y, hy⟩ := hi.right.resolve_left hr0
        rw [ndF_some hy] at hk2
        have := ihr.2.1 ((ihr.2.2 y hy).2 hk2)
        omega
      · by_cases h1 : n.right = 0
        · obtain ⟨hl0, hk2⟩ := fits_lone_l hi.fits h1
          obtain ⟨y, hy⟩ := hi.left.resolve_left hl0
          rw [ndF_some hy] at hk2
          have := ihl.2.1 ((ihl.2.2 y hy).2 hk2)
          omega
        · have := ihl.1 h0
          have := ihr.1 h1
          omega
    exact ⟨fun _ => Nat.le_trans (by decide) h2, fun _ => h2, fun m hm => (by rw [hn] at hm; cases hm; exact ⟨fun _ => hk, fun _ => rfl⟩)⟩
theorem Rep.canon {f : View} (hf : Fit f) {h : Int} {d : Nat} {t : Tr} (hr : Rep f h d t) : ∀ m, d + m = 256 → t = tree m t.ents := by
  induction hr with
  | nil => intro m _; exact (tree_nil m).symm
  | @leaf h d n hn hk => intro m _; exact (tree_one m (n.key, n.value)).symm
  | @node h d n l r hn hk hd hl hr ihl ihr =>
    intro m hm
    have h2 := (Rep.many hf (Rep.node hn hk hd hl hr)).2.1 rfl
    have hd1 := (hf.inner hn hk).d1
    obtain ⟨m, rfl⟩ : ∃ m', m = m' + 1 := ⟨m - 1, by omega⟩
    obtain ⟨s0, s1⟩ := Rep.sides hf hn hk hd hl hr
    rw [tree_two h2]
    have e0 : sideE 0 (255 - m) (Tr.node l r).ents = l.ents := by
      show (l.ents ++ r.ents).filter _ = _
      rw [List.filter_append, show 255 - m = d by omega, List.filter_eq_self.2 (fun e he => by rw [(s0 e he).2]; rfl), List.filter_eq_nil_iff.2 (fun e he => by rw [(s1 e he).2]; decide), List.append_nil]
    have e1 : sideE 1 (255 - m) (Tr.node l r).ents = r.ents := by
      show (l.ents ++ r.ents).filter _ = _
      rw [List.filter_append, show 255 - m = d by omega, List.filter_eq_nil_iff.2 (fun e he => by rw [(s0 e he).2]; decide), List.filter_eq_self.2 (fun e he => by rw [(s1 e he).2]; rfl), List.nil_append]
    rw [e0, e1, ← ihl m (by omega), ← ihr m (by omega)]
/-- A handle's entries: unlike keys, all alike up to its depth, rising. -/
theorem Rep.fine {f : View} (hf : Fit f) {h : Int} {d : Nat} {t : Tr} (hr : Rep f h d t) : (keysOf t.ents).Nodup ∧ Rising t.ents ∧ ∃ k, t.ents.Ok k d := by
  obtain ⟨h1, h2, h3⟩ := hr.ents hf
  have hnd : (keysOf t.ents).Nodup := by
    unfold keysOf
    rw [List.Nodup, List.pairwise_map]
    refine h3.imp ?_
    intro a b hab e
    unfold Ltk at hab
    rw [e, cmp_self] at hab
    omega
  refine ⟨hnd, ?_, ?_⟩
  · unfold Rising
    refine h3.imp ?_
    intro a b hab hba
    have := cmp_lt_trans _ _ _ hab hba
    rw [cmp_self] at this
    omega
  · rcases hr.live with h0 | ⟨n, hn⟩
    · subst h0
      rw [hr.zero_nil hf.zero]
      exact ⟨[], List.nodup_nil, fun p hp => (by cases hp), fun p hp => (by cases hp)⟩
    · refine ⟨n.key, hnd, fun p hp => (h1 p hp).1, fun p hp => ?_⟩
      by_cases hk : n.kind = 2
      · exact (h2 n hn p hp).1 hk
      · rw [(h2 n hn p hp).2 hk]
        exact fun _ _ => rfl
end Go.Proofs.Ytfllneenonhonaa.Store
