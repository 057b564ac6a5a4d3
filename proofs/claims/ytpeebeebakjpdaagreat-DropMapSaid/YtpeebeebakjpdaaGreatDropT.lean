/- A key is deleted, plainly: the tree of what is left. -/
import Derived.Test.YtpeebeebakjpdaaGreatPutP1
namespace Go.Proofs.YtpeebeebakjpdaaGreat.Store
open Go Go.RowKit Go.Proofs.YtpeebeebakjpdaaGreat Go.Proofs.YtpeebeebakjpdaaGreat.ShaW Go.Proofs.YtpeebeebakjpdaaGreat.Path
set_option linter.unusedVariables false

/-- What is on a key's side and what is beside it become one. -/
def fold (k : List UInt8) (d : Nat) : Tr → Tr → Tr
  | .nil, .nil => .nil
  | .nil, .leaf a b => .leaf a b
  | .leaf a b, .nil => .leaf a b
  | own, other => mk k d own other
def delT (k : List UInt8) : Nat → Tr → Tr
  | _, .nil => .nil
  | _, .leaf k' v' => if k' = k then .nil else .leaf k' v'
  | d, .node l r => if kbit k d = 0 then fold k d (delT k (d + 1) l) r else fold k d (delT k (d + 1) r) l
theorem fold_node_l (k : List UInt8) (d : Nat) {a : Tr} (b : Tr) (h : a.isNode = true) : fold k d a b = mk k d a b := by
  cases a with
  | nil => cases h
  | leaf _ _ => cases h
  | node _ _ => rfl
theorem fold_node_r (k : List UInt8) (d : Nat) (a : Tr) {b : Tr} (h : b.isNode = true) : fold k d a b = mk k d a b := by
  cases b with
  | nil => cases h
  | leaf _ _ => cases h
  | node _ _ => cases a <;> rfl
variable {L : Ents} {k v : List UInt8} {d m : Nat}
theorem without_side (L : Ents) (k : List UInt8) (b d : Nat) : sideE b d (without L k) = without (sideE b d L) k := filter_swap L _ _
theorem without_other (L : Ents) (k : List UInt8) {d b : Nat} (hb : kbit k d ≠ b) : without (sideE b d L) k = sideE b d L := by
  refine without_none fun hm => ?_
  obtain ⟨p, hp, e⟩ := List.mem_map.1 hm
  have h1 : p.1 = k := e
  have := (List.mem_filter.1 hp).2
  rw [h1] at this
  simp at this
  exact hb this
theorem Ents.Ok.out (h : L.Ok k d) : Ents.Ok (without L k) k d := h.filter _
/-- A tree of entries is a node just if there are two. -/
theorem tree_many (hm : m ≤ 256) (h : L.Ok k (256 - m)) (h2 : 2 ≤ L.length) : (tree m L).isNode = true := by
  cases m with
  | zero => have := Ents.Ok.few h; omega
  | succ m => rw [tree_two h2]; rfl
theorem sides_length (L : Ents) (d : Nat) : (sideE 0 d L).length + (sideE 1 d L).length = L.length := by
  induction L with
  | nil => rfl
  | cons p L ih =>
    unfold sideE at ih ⊢
    rw [List.filter_cons, List.filter_cons]
    rcases kbit_cases p.1 d with h | h
    · simp only [h, beq_self_eq_true, if_true, show ((0 : Nat) == 1) = false from rfl, Bool.false_eq_true, if_false, List.length_cons]; omega
    · simp only [h, beq_self_eq_true, if_true, show ((1 : Nat) == 0) = false from rfl, Bool.false_eq_true, if_false, List.length_cons]; omega
/-- The entries on the other side begin alike, too. -/
theorem Ents.Ok.sideAny (h : L.Ok k d) (b : Nat) : ∀ p ∈ sideE b d L, (sideE b d L).Ok p.1 (d + 1) := fun p hp => by
  have hb : kbit p.1 d = b := by simpa using (List.mem_filter.1 hp).2
  have hf := h.filter (fun p => kbit p.1 d == b)
  refine ⟨hf.nodup, hf.len, fun q hq => ?_⟩
  have hq1 : kbit q.1 d = b := by simpa using (List.mem_filter.1 hq).2
  exact (((h.pre q (List.mem_filter.1 hq).1).trans (h.pre p (List.mem_filter.1 hp).1).symm)).next (by rw [hb, hq1])
theorem tree_manySide (hm : m + 1 ≤ 256) (h : L.Ok k (256 - (m + 1))) (b : Nat) (h2 : 2 ≤ (sideE b (255 - m) L).length) : (tree m (sideE b (255 - m) L)).isNode = true := by
  rw [show 256 - (m + 1) = 255 - m by omega] at h
  obtain ⟨p, hp⟩ : ∃ p, p ∈ sideE b (255 - m) L := ⟨_, List.getElem_mem (show 0 < _ by omega)⟩
  have := h.sideAny b p hp
  rw [show 255 - m + 1 = 256 - m by omega] at this
  exact tree_many (by omega) this h2
/-- Two sides made one: the tree of both. -/
theorem fold_tree (hm : m + 1 ≤ 256) (h : L.Ok k (256 - (m + 1))) : (if kbit k (255 - m) = 0 then fold k (255 - m) (tree m (sideE 0 (255 - m) L)) (tree m (sideE 1 (255 - m) L)) else fold k (255 - m) (tree m (sideE 1 (255 - m) L)) (tree m (sideE 0 (255 - m) L))) = tree (m + 1) L := by
  have hl := sides_length L (255 - m)
  have mkE : (if kbit k (255 - m) = 0 then mk k (255 - m) (tree m (sideE 0 (255 - m) L)) (tree m (sideE 1 (255 - m) L)) else mk k (255 - m) (tree m (sideE 1 (255 - m) L)) (tree m (sideE 0 (255 - m) L))) = .node (tree m (sideE 0 (255 - m) L)) (tree m (sideE 1 (255 - m) L)) := by
    unfold mk
    by_cases hb : kbit k (255 - m) = 0
    · rw [if_pos hb, if_pos hb]
    · rw [if_neg hb, if_neg hb]
  have hs : ∀ b, (sideE b (255 - m) L) = [] ∨ (∃ p, sideE b (255 - m) L = [p]) ∨ 2 ≤ (sideE b (255 - m) L).length := fun b => by
    match sideE b (255 - m) L with
    | [] => exact .inl rfl
    | [p] => exact .inr (.inl ⟨p, rfl⟩)
    | p :: q :: R => exact .inr (.inr (by simp))
  have one : ∀ p, L.length = 1 → (p ∈ L) → tree (m + 1) L = .leaf p.1 p.2 := fun p h1 hp => by
    match L, h1 with
    | [q], _ => rw [List.mem_singleton.1 hp]; exact tree_one _ _
  have memS : ∀ {b p}, sideE b (255 - m) L = [p] → p ∈ L := fun {b p} e => (List.mem_filter.1 (show p ∈ sideE b (255 - m) L by rw [e]; simp)).1
  rcases hs 0 with e0 | ⟨p0, e0⟩ | e0
  · rcases hs 1 with e1 | ⟨p1, e1⟩ | e1
    · rw [e0, e1] at hl ⊢
      have : L = [] := List.eq_nil_of_length_eq_zero (by simpa using hl.symm)
      rw [this, tree_nil, tree_nil]
      split <;> rfl
    · have hp := memS e1
      rw [e0, e1] at hl ⊢
      rw [one p1 (by simpa using hl.symm) hp, tree_nil, tree_one]
      split <;> rfl
    · have hn := tree_manySide hm h 1 e1
      rw [fold_node_r _ _ _ hn, fold_node_l _ _ _ hn, mkE, tree_two (by omega)]
  · rcases hs 1 with e1 | ⟨p1, e1⟩ | e1
    · have hp := memS e0
      rw [e0, e1] at hl ⊢
      rw [one p0 (by simpa using hl.symm) hp, tree_nil, tree_one]
      split <;> rfl
    · have h2 : 2 ≤ L.length := by rw [e0, e1] at hl; simp at hl; omega
      rw [tree_two h2, ← mkE, e0, e1, tree_one, tree_one]
      rfl
    · have hn := tree_manySide hm h 1 e1
      rw [fold_node_r _ _ _ hn, fold_node_l _ _ _ hn, mkE, tree_two (by omega)]
  · have hn := tree_manySide hm h 0 e0
    rw [fold_node_r _ _ _ hn, fold_node_l _ _ _ hn, mkE, tree_two (by omega)]
/-- A key is deleted from the tree of a map. -/
theorem del_tree : ∀ (m : Nat), m ≤ 256 → ∀ {L : Ents}, L.Ok k (256 - m) → k.length = 32 → delT k (256 - m) (tree m L) = tree m (without L k) := by
  have small : ∀ (m d : Nat) {L : Ents}, L.length ≤ 1 → delT k d (tree m L) = tree m (without L k) := fun m d L hl => by
    match L, hl with
    | [], _ => rw [show without [] k = [] from rfl, tree_nil]; rfl
    | [p], _ =>
      rw [tree_one]
      unfold delT without
      by_cases e : p.1 = k
      · simp [e, tree_nil]
      · simp [e, tree_one]
  intro m
  induction m with
  | zero => intro _ L h _; exact small 0 _ h.few
  | succ m ih =>
    intro hm L h hk
    by_cases h2 : 2 ≤ L.length
    · rw [← fold_tree hm h.out, tree_two h2]
      rw [show 256 - (m + 1) = 255 - m by omega] at h ⊢
      have hs := ih (by omega) (L := sideE (kbit k (255 - m)) (255 - m) L) (by rw [show 256 - m = 255 - m + 1 by omega]; exact h.side) hk
      rw [show 256 - m = 255 - m + 1 by omega] at hs
      unfold delT
      rw [without_side, without_side]
      rcases kbit_cases k (255 - m) with hb | hb
      · rw [if_pos hb, if_pos hb]
        rw [hb] at hs
        rw [hs, without_other L k (b := 1) (by omega)]
      · rw [if_neg (by omega), if_neg (by omega)]
        rw [hb] at hs
        rw [hs, without_other L k (b := 0) (by omega)]
    · exact small (m + 1) _ (by omega)
end Go.Proofs.YtpeebeebakjpdaaGreat.Store
