/- PutTurns: in whatever order: the walk. -/
import Derived.Test.YtmeglndnkdgkoaaGreatPairs9
import Derived.Deep.Upon
namespace Go.Proofs.YtmeglndnkdgkoaaGreat.Law9
open Go Go.RowKit Go.Proofs.YtmeglndnkdgkoaaGreat Go.Proofs.YtmeglndnkdgkoaaGreat.ShaW Go.Proofs.YtmeglndnkdgkoaaGreat.Path Go.Proofs.YtmeglndnkdgkoaaGreat.Store
set_option maxHeartbeats 3200000
set_option linter.unusedVariables false

/-- Numbers that came in. -/
def IntsAt (w : World) (ao : Option Addr) (len : Nat) : Prop := ∀ i, i < len → ∃ (g off : Nat) (x : Int), ao = some ⟨g, off, none⟩ ∧ w.cell? ⟨g, off + i, none⟩ = some (.int .i64 x) ∧ (Lit.int .i64 x).wf = true ∧ g < w.heap.size
theorem IntsAt.keep {w w' : World} {ao : Option Addr} {len : Nat} (h : IntsAt w ao len) (a : Adds w w') : IntsAt w' ao len := fun i hi => by
  obtain ⟨g, off, x, h1, h2, h3, h4⟩ := h i hi
  exact ⟨g, off, x, h1, a.cell h2 id, h3, Nat.lt_of_lt_of_le h4 a.size⟩
/-- A row of pairs is copied. -/
theorem wpList_append_row {w : World} {ops : Array Oper} {rest : List Oper} {o : Oper} {a : Act} {Q : Exit → Act → World → Prop} (hgd : o.guard = none) (s x : Operand)
    (ho : o.op = .call { callee := .builtin .append, args := #[s, x], argTypes := #[63, 63] }) (g : Nat) (hs : a.eval s = .slice (some ⟨g, 0, none⟩) 0 0) (hg : w.heap[g]? = some (.cells #[] 159 (0, 0)))
    (xv : Value) (hx : a.eval x = xv) {b : Nat} {l : List Pr} (hr : RowP w b xv l) (hone : ∀ u ∈ flatP l, u.oneCell' = true) (hl : l.length ≤ 1000)
    (h : ∀ v' w', RowP w' 0 v' l → w.grownBy w' (some g) → (v'.ownBlock = some g ∨ ∀ k, v'.ownBlock = some k → w.heap.size ≤ k) → wpList Tryz.prog ops Q rest (a.put o.dst v') w') : wpList Tryz.prog ops Q (o :: rest) a w := by
  obtain ⟨i0, z0, p1, p2, p3, p4, p5⟩ := pair_info
  have hbase : w.ownsRow 0 159 33 (.slice (some ⟨g, 0, none⟩) 0 0) 0 [] := ⟨by simp, .inr ⟨g, 0, #[], rfl, Nat.zero_le _, hg, Nat.le_refl _, Nat.zero_le _, rfl, by simp⟩⟩
  obtain ⟨h0, ⟨rfl, h1⟩ | ⟨g', cap, cur, rfl, hb, hg', hn, hc, hsz, ht⟩⟩ := hr
  · have hnil : l = [] := List.eq_nil_of_length_eq_zero h1
    subst hnil
    refine wpList_plain hgd fun _ hK => ?_
    have hrun := run_append_nothing (P := Tryz.prog) w 63 63 o.type 159 i0 Tryz.underlying63 p1 (some ⟨g, 0, none⟩) 0 0 (Nat.le_refl _) _ (Src.ofNil w Tryz.underlying63 0)
    unfold Oper.wp
    simp [execOp, ho, resolve, invoke, builtin, hs, hx, hrun, Result.andThen]
    exact hK _ _ (h _ w hbase ⟨rfl, rfl, rfl, Nat.le_refl _, fun _ _ _ => rfl⟩ (.inl rfl))
  · refine wpList_append_mine hgd s x 63 ho 159 i0 z0 33 56 Tryz.underlying63 p1 p2 p3 p4 p5 (by decide) _ 0 [] hs hbase ⟨g', 0, none⟩ l.length cap (flatP l) hx h0 (fun j u hu => ?_) hone (by unfold maxLen; omega) (by omega) ?_
    · have hj := (List.getElem?_eq_some_iff.1 hu).1
      rw [h0] at hj
      have hrow : w.ownsRow 0 159 33 (.slice (some ⟨g', 0, none⟩) l.length cap) l.length (flatP l) := ⟨h0, .inr ⟨g', cap, cur, rfl, Nat.zero_le _, hg', hn, hc, hsz, ht⟩⟩
      rw [add_plain, Nat.zero_add, hrow.cellAt j hj]
      exact hu
    · intro v' w' q1 q2 q3
      rw [Nat.zero_add, List.nil_append] at q1
      exact h v' w' q1 q2 q3
theorem swap_perm {l : List Pr} {a b : Nat} {x y : Pr} (ha : l[a]? = some x) (hb : l[b]? = some y) : ((l.set a y).set b x).Perm l := by
  obtain ⟨h1, rfl⟩ := List.getElem?_eq_some_iff.1 ha
  obtain ⟨h2, rfl⟩ := List.getElem?_eq_some_iff.1 hb
  exact List.set_set_perm h1 h2
theorem keysOf_ents (l : List Pr) : keysOf (l.map Pr.ent) = l.map (·.key) := by simp [keysOf, Pr.ent, Function.comp_def]
/-- The next one of unlike keys. -/
theorem perm_next {L : Ents} {l : List Pr} {k : Nat} {x : Pr} (hp : L.Perm ((l.take k).map Pr.ent)) (hn : (l.map (·.key)).Nodup) (hx : l[k]? = some x) : (upd L x.key x.val).Perm ((l.take (k + 1)).map Pr.ent) := by
  have htk : l.take (k + 1) = l.take k ++ [x] := by rw [List.take_add_one, hx]; rfl
  have hne : x.key ∉ keysOf L := fun hm => by
    have h1 : x.key ∈ keysOf ((l.take k).map Pr.ent) := (hp.map _).mem_iff.1 hm
    rw [keysOf_ents] at h1
    have h2 : ((l.take (k + 1)).map (·.key)).Nodup := hn.sublist ((List.take_sublist _ _).map _)
    rw [htk, List.map_append, List.nodup_append] at h2
    exact h2.2.2 _ h1 x.key (by simp) rfl
  rw [htk, List.map_append]
  exact (upd_new hne).trans (hp.append_right _)
end Go.Proofs.YtmeglndnkdgkoaaGreat.Law9
