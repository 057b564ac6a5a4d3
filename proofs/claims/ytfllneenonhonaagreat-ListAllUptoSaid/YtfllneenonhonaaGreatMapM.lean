/- PutMap: what the walk keeps, plainly. -/
import Derived.Test.YtfllneenonhonaaGreatPutD
import Derived.Test.YtfllneenonhonaaGreatNode1
namespace Go.Proofs.YtfllneenonhonaaGreat.Law9
open Go Go.RowKit Go.Proofs.YtfllneenonhonaaGreat Go.Proofs.YtfllneenonhonaaGreat.ShaW Go.Proofs.YtfllneenonhonaaGreat.Path Go.Proofs.YtfllneenonhonaaGreat.Store
set_option maxHeartbeats 1600000
set_option linter.unusedVariables false

/-- The entries that writes lead to. -/
def entsP (l : List Pr) : Ents := l.foldl (fun L p => upd L p.key p.val) []
theorem entsP_next {l : List Pr} {k : Nat} {x : Pr} (hx : l[k]? = some x) : entsP (l.take (k + 1)) = upd (entsP (l.take k)) x.key x.val := by
  have htk : l.take (k + 1) = l.take k ++ [x] := by rw [List.take_add_one, hx]; rfl
  unfold entsP
  rw [htk, List.foldl_append]
  rfl
theorem without_perm {L L' : Ents} (h : L.Perm L') (k : List UInt8) : (without L k).Perm (without L' k) := h.filter _
/-- They are what pairs tells. -/
theorem pairs_ents {l out : List Pr} (h : Pairs l out) : (entsP l).Perm (out.map Pr.ent) := by
  induction h with
  | nil => exact .refl _
  | @new l out p h hp ih =>
    have e : entsP (l ++ [p]) = upd (entsP l) p.key p.val := by unfold entsP; rw [List.foldl_append]; rfl
    have hn : p.key ∉ keysOf (out.map Pr.ent) := fun hm => by
      rw [keysOf_ents] at hm
      obtain ⟨q, hq, hk⟩ := List.mem_map.1 hm
      exact hp q hq hk
    have hw := (without_perm ih p.key).trans (.of_eq (without_none hn))
    rw [e, List.map_append]
    exact (hw.cons (p.key, p.val)).trans (List.perm_append_singleton _ _).symm
  | @old l out p q i h hq hk ih =>
    have e : entsP (l ++ [p]) = upd (entsP l) p.key p.val := by unfold entsP; rw [List.foldl_append]; rfl
    obtain ⟨hi, rfl⟩ := List.getElem?_eq_some_iff.1 hq
    have hnd := h.nodup
    have hs : out = out.take i ++ out[i] :: out.drop (i + 1) := by rw [List.getElem_cons_drop, List.take_append_drop]
    have hset : out.set i p = out.take i ++ p :: out.drop (i + 1) := List.set_eq_take_append_cons_drop.trans (if_pos hi)
    have h1 : p.key ∉ keysOf ((out.take i).map Pr.ent) := fun hm => by
      rw [keysOf_ents] at hm
      rw [hs, List.map_append, List.nodup_append] at hnd
      exact hnd.2.2 _ hm _ (List.mem_map.2 ⟨out[i], List.mem_cons_self, hk⟩) rfl
    have h2 : p.key ∉ keysOf ((out.drop (i + 1)).map Pr.ent) := fun hm => by
      rw [keysOf_ents] at hm
      rw [hs, List.map_append, List.nodup_append, List.map_cons, List.nodup_cons] at hnd
      rw [← hk] at hm
      exact hnd.2.1.1 hm
    have hwo : without (out.map Pr.ent) p.key = (out.take i).map Pr.ent ++ (out.drop (i + 1)).map Pr.ent := by
      conv => lhs; rw [hs]
      unfold without at *
      rw [List.map_append, List.filter_append, List.map_cons, List.filter_cons]
      have a := without_none h1
      have b := without_none h2
      unfold without at a b
      rw [a, b, if_neg (by simp [Pr.ent, hk])]
    have hw := (without_perm ih p.key).trans (.of_eq hwo)
    rw [e, hset, List.map_append, List.map_cons]
    exact (hw.cons (p.key, p.val)).trans List.perm_middle.symm
theorem pairs_fine {l out : List Pr} (h : Pairs l out) (h1 : l.length ≤ 4096) (h2 : ∀ x ∈ l, x.val.length ≤ 1024) : FineP out := ⟨Nat.le_trans h.len h1, fun x hx => h2 x (h.mem x hx), h.nodup⟩
theorem RowP.pairs {w : World} {b : Nat} {v : Value} {out : List Pr} (h : RowP w b v out) (hg : ∀ x ∈ out, x.Good w) : ∃ ao cap, v = .slice ao out.length cap ∧ PairsAt w ao out := by
  obtain ⟨ao, cap, rfl⟩ := h.form
  refine ⟨ao, cap, rfl, hg, fun i x hx => ?_⟩
  have hl : 0 < out.length := by have := (List.getElem?_eq_some_iff.1 hx).1; omega
  obtain ⟨g, cap', cur, e1, _, hrow, hsz, hc, _⟩ := h.open (fun x hx => (hg x hx).key) hl
  injection e1 with e1 _ _
  subst e1
  refine ⟨g, 0, rfl, cur, _, _, hrow, ?_, ?_⟩
  · rw [Pr.size (hg x (List.mem_of_getElem? hx)).key]
    have := (List.getElem?_eq_some_iff.1 hx).1
    omega
  · rw [Pr.size (hg x (List.mem_of_getElem? hx)).key, Nat.zero_add]
    exact hc i x hx
/-- The store of PutMap, the root, one that is kept with its digest. -/
structure MapSt (w0 w : World) (s B : Nat) (root kept : Int) (σ : SlabSt Nd) (L : Ents) (lv tt : Nat) : Prop where
  own : Ow w0 w s σ (fun j => j = B)
  base : w0.heap.size ≤ B
  db : Db σ root L
  room : σ.room = 8256
  live : Store.live σ ≤ lv
  total : Store.total σ ≤ tt
  row : ∃ hb : List UInt8, hb.length = 32 ∧ w.heap[B]? = some (.cells (brow hb) 72 (0, 0)) ∧ (kept ≠ 0 → 1 ≤ Store.held σ kept ∧ (kept = root → 2 ≤ Store.held σ root) ∧ digestOf σ kept = hb)
section
variable {w0 w w' : World} {s B : Nat} {root kept r : Int} {σ σ' : SlabSt Nd} {L L' : Ents} {lv tt : Nat}
theorem MapSt.adds (h : MapSt w0 w s B root kept σ L lv tt) (a : Adds w w') : MapSt w0 w' s B root kept σ L lv tt := by
  obtain ⟨hb, h1, h2, h3⟩ := h.row
  exact ⟨h.own.adds a, h.base, h.db, h.room, h.live, h.total, hb, h1, a.row h2 id, h3⟩
theorem MapSt.more (h : MapSt w0 w s B root kept σ L lv tt) {lv' tt' : Nat} (h1 : lv ≤ lv') (h2 : tt ≤ tt') : MapSt w0 w s B root kept σ L lv' tt' := ⟨h.own, h.base, h.db, h.room, Nat.le_trans h.live h1, Nat.le_trans h.total h2, h.row⟩
theorem MapSt.world (h : MapSt w0 w s B root kept σ L lv tt) : Adds w0 w := h.own.world
theorem digest_sk {h : Int} (e : sk σ' h = sk σ h) : digestOf σ' h = digestOf σ h := by
  rw [digestOf_sk, digestOf_sk]
  unfold digF ndF
  rw [e]
/-- Behind a write. -/
theorem MapSt.put {c : Nat} (h : MapSt w0 w s B root kept σ L lv tt) (ho : Ow w0 w' s σ' (fun j => j = B)) (hb : But (fun j => j = B) w w') (W : Wrote σ σ' root r c) (D : Db σ' r L')
    (hs : 2 ≤ Store.held σ root → (r = root ∧ σ' = σ) ∨ (r ≠ root ∧ sk σ' root = sk σ root ∧ 1 ≤ Store.held σ' root)) : MapSt w0 w' s B r kept σ' L' (lv + c) (tt + 600) := by
  obtain ⟨hh, h1, h2, h3⟩ := h.row
  refine ⟨ho, h.base, D, W.room.trans h.room, by have := W.live; have := h.live; omega, by have := W.total; have := h.total; omega, hh, h1, hb.row h2 rfl, fun hk => ?_⟩
  obtain ⟨p, q, d⟩ := h3 hk
  by_cases e : kept = root
  · have h2r := q e
    rcases hs h2r with ⟨e1, e2⟩ | ⟨e1, e2, e3⟩
    · rw [e1, e2]
      exact ⟨p, q, d⟩
    · rw [e] at d ⊢
      exact ⟨e3, fun e4 => absurd e4.symm e1, by rw [digest_sk e2]; exact d⟩
  · obtain ⟨a, b⟩ := W.others kept e p
    refine ⟨by rw [b]; exact p, fun e4 => ?_, by rw [digest_sk a]; exact d⟩
    exfalso
    rcases W.fresh with f | f
    · exact e (e4.trans f)
    · obtain ⟨x, hx, _⟩ := held_there p
      rw [← e4, sk_some hx] at f
      cases f
/-- The root's digest and how many entries it has. -/
theorem MapSt.digest (h : MapSt w0 w s B root kept σ L lv tt) : digestOf σ root = (tree 256 L).dig := by rw [digestOf_sk]; exact h.db.rep.dig h.db.good.fit
theorem MapSt.size (h : MapSt w0 w s B root kept σ L lv tt) (hl : L.length ≤ 4096) : (nd σ root).size = (L.length : Int) := by
  rw [h.db.size, h.db.count]
  unfold wrap64
  omega
end
end Go.Proofs.YtfllneenonhonaaGreat.Law9
