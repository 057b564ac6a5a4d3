/- ListRanks, plainly: ranks rise with the keys. -/
import Derived.Test.YtfllneenonhonaaGreatList2
import Derived.Test.YtfllneenonhonaaGreatAwake13
namespace Go.Proofs.YtfllneenonhonaaGreat.Law13
open Go Go.RowKit Go.Proofs.YtfllneenonhonaaGreat Go.Proofs.YtfllneenonhonaaGreat.ShaW Go.Proofs.YtfllneenonhonaaGreat.Path Go.Proofs.YtfllneenonhonaaGreat.Store Go.Proofs.YtfllneenonhonaaGreat.Law9
set_option maxHeartbeats 1600000
set_option linter.unusedVariables false

theorem pairs_self {l : List Pr} (h : (l.map (·.key)).Nodup) : ∀ k, k ≤ l.length → Pairs (l.take k) (l.take k)
  | 0, _ => by rw [List.take_zero]; exact .nil
  | k + 1, hk => by
    obtain ⟨x, hx⟩ : ∃ x, l[k]? = some x := ⟨_, List.getElem?_eq_getElem (by omega)⟩
    have htk : l.take (k + 1) = l.take k ++ [x] := by rw [List.take_add_one, hx]; rfl
    rw [htk]
    refine .new (pairs_self h k (by omega)) fun q hq e => ?_
    have hn : ((l.take (k + 1)).map (·.key)).Nodup := h.sublist ((List.take_sublist _ _).map _)
    rw [htk, List.map_append, List.nodup_append] at hn
    exact hn.2.2 _ (List.mem_map_of_mem hq) _ (by simp) e
theorem entsOf_perm {l : List Pr} (h : (l.map (·.key)).Nodup) : (entsOf l).Perm (l.map Pr.ent) := by
  have := pairs_self h l.length (Nat.le_refl _)
  rw [List.take_length] at this
  exact pairs_ents this
theorem cmp_swap : ∀ a b : List UInt8, a.length = b.length → (0 < Lib.compareBytes a b ↔ Lib.compareBytes b a < 0)
  | [], [], _ => by simp [Lib.compareBytes]
  | [], _ :: _, h => by simp at h
  | _ :: _, [], h => by simp at h
  | x :: a, y :: b, h => by
    have ih := cmp_swap a b (by simpa using h)
    unfold Lib.compareBytes
    by_cases h1 : x < y
    · have h2 : ¬ y < x := by rw [UInt8.lt_iff_toNat_lt] at h1 ⊢; omega
      rw [if_pos h1, if_neg h2, if_pos h1]; decide
    · by_cases h2 : y < x
      · rw [if_neg h1, if_pos h2, if_pos h2]; decide
      · rw [if_neg h1, if_neg h2, if_neg h2, if_neg h1]; exact ih
theorem cmp_same : ∀ a b : List UInt8, Lib.compareBytes a b = 0 → a = b
  | [], [], _ => rfl
  | [], _ :: _, h => by simp [Lib.compareBytes] at h
  | _ :: _, [], h => by simp [Lib.compareBytes] at h
  | x :: a, y :: b, h => by
    unfold Lib.compareBytes at h
    by_cases h1 : x < y
    · rw [if_pos h1] at h; cases h
    · by_cases h2 : y < x
      · rw [if_neg h1, if_pos h2] at h; cases h
      · rw [if_neg h1, if_neg h2] at h
        have e : x = y := by apply UInt8.toNat_inj.1; rw [UInt8.lt_iff_toNat_lt] at h1 h2; omega
        rw [e, cmp_same a b h]
theorem rank_mono (t : Tr) {a b : List UInt8} (h : Lib.compareBytes a b < 0) : t.rank a ≤ t.rank b := by
  unfold Tr.rank
  have : t.ents.filter (ltK a) = (t.ents.filter (ltK b)).filter (ltK a) := by
    rw [List.filter_filter]
    refine List.filter_congr fun e _ => ?_
    unfold ltK
    by_cases h1 : Lib.compareBytes e.1 a < 0
    · rw [decide_eq_true h1, decide_eq_true (cmp_lt_trans _ _ _ h1 h)]; rfl
    · rw [decide_eq_false h1]; simp
  rw [this]
  exact List.length_filter_le _ _
/-- What the ranks of two keys come to. -/
theorem ranks_say (t : Tr) {a b : List UInt8} (ha : a.length = 32) (hb : b.length = 32) {c : Int} (hc : c = Lib.compareBytes a b) {ra rb : Nat} (hra : ra = t.rank a) (hrb : rb = t.rank b) {n : Int} (hn : n = t.between a b) :
    (c < 0 → ra ≤ rb) ∧ (0 < c → rb ≤ ra ∧ n = 0) ∧ (c = 0 → ra = rb) ∧ (c ≤ 0 → (nextK b).2 = true → n = (t.rank (nextK b).1 : Int) - (ra : Int)) := by
  subst hc hra hrb hn
  have hl := cmp_swap a b (by rw [ha, hb])
  refine ⟨rank_mono t, fun h => ⟨rank_mono t (hl.1 h), ?_⟩, fun h => by rw [cmp_same _ _ h], fun h hm => ?_⟩
  · unfold Tr.between
    rw [if_pos (hl.1 h)]
  · unfold Tr.between Tr.upTo
    rw [if_neg (fun h' => by have := hl.2 h'; omega), if_pos hm]
end Go.Proofs.YtfllneenonhonaaGreat.Law13
