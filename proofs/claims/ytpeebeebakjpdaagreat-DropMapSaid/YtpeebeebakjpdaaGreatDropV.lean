/- A key is deleted, plainly: what look finds; the root behind it all. -/
import Derived.Test.YtpeebeebakjpdaaGreatDropU
namespace Go.Proofs.YtpeebeebakjpdaaGreat.Store
open Go Go.RowKit Go.Proofs.YtpeebeebakjpdaaGreat Go.Proofs.YtpeebeebakjpdaaGreat.ShaW Go.Proofs.YtpeebeebakjpdaaGreat.Path
set_option linter.unusedVariables false

section
variable {σ0 σ : SlabSt Nd} {key : List UInt8} {root : Int} {l : List Int} {e : Int} {t : Tr}
/-- What stays of the tree from depth m on. -/
def Stay (f : View) (key : List UInt8) (m : Nat) (st : Int) (T : Tr) : Prop := (st = 0 ∧ T = .nil) ∨ ∃ y, f st = some y ∧ y.kind = 1 ∧ T = .leaf y.key y.value ∧ Pre y.key key m
theorem Stay.rep {f : View} {m : Nat} {st : Int} {T : Tr} (h : Stay f key m st T) (d : Nat) : Rep f st d T := by
  rcases h with ⟨rfl, rfl⟩ | ⟨y, h1, h2, rfl, _⟩
  · exact .nil
  · exact .leaf h1 h2
theorem On.same {f : View} {k : List UInt8} {d : Nat} {c c' : Int} (h : On f k c d l e) (h' : On f k c' d l e) : c = c' := by
  cases h with
  | stop _ => cases h' with | stop _ => rfl
  | step _ _ _ _ => cases h' with | step _ _ _ _ => rfl
theorem Rep.none_zero {f : View} {h : Int} {d : Nat} {t : Tr} (hr : Rep f h d t) (ht : t = .nil) : h = 0 := by
  cases hr with
  | nil => rfl
  | leaf _ _ => cases ht
  | node _ _ _ _ _ => cases ht
/-- A node of the way. -/
structure Level (σ0 : SlabSt Nd) (key : List UInt8) (root : Int) (l : List Int) (e : Int) (j : Nat) (h : Int) (x : Nd) (tl tr : Tr) : Prop where
  at_ : l[j]? = some h
  way : Way (sk σ0) key root 0 (l.take j) h
  there : sk σ0 h = some x
  kind : x.kind = 2
  depth : x.depth = (j : Nat)
  pre : Pre x.key key j
  left : Rep (sk σ0) x.left (j + 1) tl
  right : Rep (sk σ0) x.right (j + 1) tr
  own : On (sk σ0) key (if kbit key j = 0 then x.left else x.right) (j + 1) (l.drop (j + 1)) e
theorem level (G : Good σ0) (ht : Rep (sk σ0) root 0 t) (ho : On (sk σ0) key root 0 l e) {j : Nat} (hj : j < l.length) : ∃ h x tl tr, Level σ0 key root l e j h x tl tr := by
  have hz := G.fit.zero
  obtain ⟨c, tc, h1, h2, h3⟩ := ho.cut j (by omega) hz ht
  rw [Nat.zero_add] at h2 h3
  have hp := h1.pre G.fit (fun _ _ _ h => absurd h (Nat.not_lt_zero _))
  rw [Nat.zero_add, List.length_take, Nat.min_eq_left (by omega)] at hp
  rw [List.drop_eq_getElem_cons hj] at h2
  generalize hl : l[j] = hh at h2
  cases h2 with
  | step hn hk hd hr =>
    cases h3 with
    | nil => rw [hz] at hn; cases hn
    | leaf hn' hk' => rw [hn] at hn'; cases hn'; omega
    | @node _ _ x tl tr hn' _ _ hl' hr' =>
      rw [hn] at hn'
      cases hn'
      exact ⟨_, _, tl, tr, by rw [List.getElem?_eq_getElem hj, hl], h1, hn, hk, hd, hp _ hn, hl', hr', hr⟩
theorem beside_level {j : Nat} {h : Int} {x : Nd} {tl tr : Tr} (G : Good σ0) (L : Level σ0 key root l e j h x tl tr) : besideS σ0 key (l.getD j 0) j = (if kbit key j = 0 then x.right else x.left) := by
  have hd := (G.fit.inner L.there L.kind).d1
  have hdd := L.depth
  have hg : l.getD j 0 = h := by simp [L.at_]
  rw [hg]
  unfold besideS
  rw [nd_left L.there, nd_right L.there, bit_in (show j < 256 by omega)]
  rcases kbit_cases key j with hb | hb
  · rw [hb]; rfl
  · rw [hb]; rfl
theorem lookL_spec (G : Good σ0) (ht : Rep (sk σ0) root 0 t) (ho : On (sk σ0) key root 0 l e) : ∀ (m : Nat), m ≤ l.length → ∀ {c : Int} {tm : Tr} {st : Int}, On (sk σ0) key c m (l.drop m) e → Rep (sk σ0) c m tm → Stay (sk σ0) key m st (delT key m tm) →
    ((lookL σ0 key l m st).2.1 = -1 ∧ (lookL σ0 key l m st).2.2 = false ∧ Stay (sk σ0) key 0 (lookL σ0 key l m st).1 (delT key 0 t)) ∨
    (∃ (j : Nat) (h : Int) (x : Nd) (tl tr : Tr), (lookL σ0 key l m st).2.1 = j ∧ Level σ0 key root l e j h x tl tr ∧ (lookL σ0 key l m st).2.2 = false ∧ (lookL σ0 key l m st).1 ≠ 0 ∧ Stay (sk σ0) key (j + 1) (lookL σ0 key l m st).1 (delT key (j + 1) (if kbit key j = 0 then tl else tr)) ∧ (if kbit key j = 0 then x.right else x.left) ≠ 0) ∨
    (∃ (j : Nat) (h : Int) (x : Nd) (tl tr : Tr), (lookL σ0 key l m st).2.1 = j ∧ Level σ0 key root l e j h x tl tr ∧ (lookL σ0 key l m st).2.2 = true ∧ delT key (j + 1) (if kbit key j = 0 then tl else tr) = .nil ∧ (lookL σ0 key l m st).1 = (if kbit key j = 0 then x.right else x.left) ∧ (if kbit key j = 0 then tr else tl).isNode = true) := by
  have hz := G.fit.zero
  intro m
  induction m with
  | zero =>
    intro _ c tm st hon hrep hS
    have hc : c = root := by rw [List.drop_zero] at hon; exact hon.same ho
    subst hc
    rw [← ht.det hz hrep] at hS
    exact .inl ⟨rfl, rfl, hS⟩
  | succ m ih =>
    intro hm c tm st hon hrep hS
    obtain ⟨h, x, tl, tr, L⟩ := level G ht ho (show m < l.length by omega)
    have hc := hon.same L.own
    subst hc
    have hrown : Rep (sk σ0) (if kbit key m = 0 then x.left else x.right) (m + 1) (if kbit key m = 0 then tl else tr) := by
      have h1 := L.left
      have h2 := L.right
      split <;> assumption
    have htm := hrep.det hz hrown
    rw [htm] at hS
    have hN := G.fit.next (σ0 := σ0) rfl L.there L.kind L.depth L.pre L.left L.right
    have hb := beside_level G L
    have hdel : delT key m (.node tl tr) = fold key m (delT key (m + 1) (if kbit key m = 0 then tl else tr)) (if kbit key m = 0 then tr else tl) := by
      conv => lhs; unfold delT
      by_cases hk : kbit key m = 0
      · rw [if_pos hk, if_pos hk, if_pos hk]
      · rw [if_neg hk, if_neg hk, if_neg hk]
    have hrepm : Rep (sk σ0) h m (.node tl tr) := .node L.there L.kind L.depth L.left L.right
    have honm : On (sk σ0) key h m (l.drop m) e := by
      obtain ⟨hlt, hh⟩ := List.getElem?_eq_some_iff.1 L.at_
      rw [List.drop_eq_getElem_cons hlt, hh]
      exact .step L.there L.kind L.depth L.own
    unfold lookL
    rw [hb]
    obtain ⟨o, ho'⟩ : ∃ o, o = (if kbit key m = 0 then x.right else x.left) := ⟨_, rfl⟩
    obtain ⟨u, hu⟩ : ∃ u, u = (if kbit key m = 0 then tr else tl) := ⟨_, rfl⟩
    obtain ⟨T, hT⟩ : ∃ T, T = delT key (m + 1) (if kbit key m = 0 then tl else tr) := ⟨_, rfl⟩
    rw [← ho', ← hu] at hN
    rw [← hT] at hS hdel
    rw [← hu] at hdel
    rw [← ho']
    by_cases h0 : o = 0
    · rw [if_pos h0]
      have hu0 : u = .nil := by
        rcases hN with ⟨_, e2⟩ | ⟨z, z1, _⟩
        · exact e2
        · rw [h0, hz] at z1; cases z1
      refine ih (by omega) honm hrepm ?_
      rw [hdel, hu0]
      rcases hS with ⟨e1, e2⟩ | ⟨y, y1, y2, y3, y4⟩
      · rw [e2]; exact .inl ⟨e1, rfl⟩
      · rw [y3]; exact .inr ⟨y, y1, y2, rfl, y4.less (by omega)⟩
    · rw [if_neg h0]
      obtain ⟨z, z1, z2, z3, z4⟩ := hN.resolve_left (fun h => h0 h.1)
      by_cases hst : st = 0
      · rw [if_neg (by simpa using hst)]
        have hTn : T = .nil := by
          rcases hS with ⟨_, e2⟩ | ⟨y, y1, _⟩
          · exact e2
          · rw [hst, hz] at y1; cases y1
        by_cases hk1 : (nd σ0 o).kind = 1
        · rw [if_pos hk1]
          have hz1 : z.kind = 1 := by rw [← nd_kind z1]; exact hk1
          refine ih (by omega) honm hrepm ?_
          rw [hdel, hTn]
          have hul : u = .leaf z.key z.value := z2.det hz (.leaf z1 hz1)
          rw [hul]
          exact .inr ⟨z, z1, hz1, rfl, z3⟩
        · rw [if_neg hk1]
          refine .inr (.inr ⟨m, h, x, tl, tr, rfl, L, rfl, by rw [← hT]; exact hTn, ho', ?_⟩)
          rw [← hu]
          have hz2 : z.kind = 2 := by
            by_cases h2 : z.kind = 2
            · exact h2
            · have := (G.fit.leaf z1 h2).1
              exact absurd (by rw [nd_kind z1]; exact this) hk1
          exact z2.isNode' hz z1 hz2
      · rw [if_pos hst]
        exact .inr (.inl ⟨m, h, x, tl, tr, rfl, L, rfl, hst, by rw [← hT]; exact hS, by rw [← ho']; exact h0⟩)
/-- A key that is there is taken away: the tree behind all calls but the root's drop. -/
theorem cut_spec (G : Good σ0) (hk : key.length = 32) (ht : Rep (sk σ0) root 0 t) (ho : On (sk σ0) key root 0 l e) (hth : thereS σ0 key e = true) (hroom : live σ0 + 258 ≤ σ0.room) (htot : total σ0 + 1000 < 1073741824) :
    ∃ n, n ≤ 256 ∧ DMid σ0 (cutS σ0 key l).2 key (cutS σ0 key l).1 0 (delT key 0 t) n := by
  have hz := G.fit.zero
  have hll := ho.len G.fit (by omega)
  obtain ⟨te, hte⟩ := ho.rep_end hz ht
  rw [Nat.zero_add] at hte
  have hend : delT key l.length te = .nil := by
    unfold thereS at hth
    simp at hth
    cases hte with
    | nil => rfl
    | leaf hn h1 =>
      rw [nd_key hn] at hth
      unfold delT
      rw [if_pos hth.2]
    | node hn h2 _ _ _ => rw [nd_kind hn, h2] at hth; exact absurd hth.1 (by decide)
  have hone : On (sk σ0) key e l.length (l.drop l.length) e := by
    rw [List.drop_length]
    exact .stop ho.end_
  have hpre : ∀ x, sk σ0 root = some x → Pre x.key key 0 := fun _ _ _ h => absurd h (Nat.not_lt_zero _)
  rcases lookL_spec G ht ho l.length (Nat.le_refl _) hone hte (.inl ⟨rfl, hend⟩) with ⟨h1, h2, h3⟩ | ⟨j, h, x, tl, tr, h1, L, h2, h3, h4, h5⟩ | ⟨j, h, x, tl, tr, h1, L, h2, h3, h4, h5⟩
  · have hc : cutS σ0 key l = ((lookL σ0 key l l.length 0).1, heldS σ0 (lookL σ0 key l l.length 0).1) := by
      unfold cutS
      simp only
      rw [h2, h1, if_neg (by simp)]
      rfl
    rw [hc]
    exact ⟨0, by omega, DMid.start G (by omega) (h3.rep 0) (fun _ _ _ h => absurd h (Nat.not_lt_zero _))⟩
  · have hjl : j < l.length := (List.getElem?_eq_some_iff.1 L.at_).1
    have hc : cutS σ0 key l = upL key 0 (l.take j) (stepS (heldS σ0 (lookL σ0 key l l.length 0).1) key h j (lookL σ0 key l l.length 0).1).2 (stepS (heldS σ0 (lookL σ0 key l l.length 0).1) key h j (lookL σ0 key l l.length 0).1).1 := by
      unfold cutS
      simp only
      rw [h2, h1, if_neg (by simp), show ((j : Int) + 1).toNat = j + 1 by omega, show l.take (j + 1) = l.take j ++ [h] by rw [List.take_add_one, L.at_]; rfl, upL_last, List.length_take, Nat.min_eq_left (by omega), Nat.zero_add]
    rw [hc]
    have hst : ∀ y, sk σ0 (lookL σ0 key l l.length 0).1 = some y → Pre y.key key (j + 1) := fun y hy => by
      rcases h4 with ⟨e1, _⟩ | ⟨y', y1, _, _, y4⟩
      · exact absurd e1 h3
      · rw [y1] at hy; cases hy; exact y4
    have m0 := DMid.start (key := key) G (by omega) (h4.rep (j + 1)) hst
    have m1 := DMid.next G hk L.there L.kind L.depth L.pre L.left L.right m0 (by omega) (by omega) (.inr (.inr ⟨h3, h5⟩))
    have hfold : Store.mk key j (delT key (j + 1) (if kbit key j = 0 then tl else tr)) (if kbit key j = 0 then tr else tl) = delT key j (.node tl tr) := by
      have hdel : delT key j (.node tl tr) = fold key j (delT key (j + 1) (if kbit key j = 0 then tl else tr)) (if kbit key j = 0 then tr else tl) := by
        conv => lhs; unfold delT
        by_cases hk : kbit key j = 0
        · rw [if_pos hk, if_pos hk, if_pos hk]
        · rw [if_neg hk, if_neg hk, if_neg hk]
      rw [hdel]
      have hN := G.fit.next (σ0 := σ0) rfl L.there L.kind L.depth L.pre L.left L.right
      obtain ⟨z, z1, z2, _⟩ := hN.resolve_left (fun h => h5 h.1)
      rcases h4 with ⟨e1, _⟩ | ⟨y, y1, y2, y3, y4⟩
      · exact absurd e1 h3
      · rw [y3]
        generalize (if kbit key j = 0 then tr else tl) = u at z2 ⊢
        cases u with
        | nil => exact absurd (z2.none_zero rfl) h5
        | leaf _ _ => rfl
        | node _ _ => rfl
    rw [hfold] at m1
    have hrepj : Rep (sk σ0) h j (.node tl tr) := .node L.there L.kind L.depth L.left L.right
    have hlen : (l.take j).length = j := by rw [List.length_take, Nat.min_eq_left (by omega)]
    have hup := DMid.up G hk L.way ht (tc := .node tl tr) (by rw [hlen, Nat.zero_add]; exact hrepj) hpre (by rw [hlen, Nat.zero_add]; exact m1) (by rw [hlen, Nat.zero_add, ← hfold]; exact mk_node ..) (by rw [hlen]; omega) (by rw [hlen]; omega)
    exact ⟨_, by rw [hlen]; omega, hup.1⟩
  · have hjl : j < l.length := (List.getElem?_eq_some_iff.1 L.at_).1
    have hN := G.fit.next (σ0 := σ0) rfl L.there L.kind L.depth L.pre L.left L.right
    have hc : cutS σ0 key l = upL key 0 (l.take j) (joinS (heldS σ0 (lookL σ0 key l l.length 0).1) key (j : Nat) 0 (lookL σ0 key l l.length 0).1).2.2 (joinS (heldS σ0 (lookL σ0 key l l.length 0).1) key (j : Nat) 0 (lookL σ0 key l l.length 0).1).1 := by
      unfold cutS
      simp only
      rw [h2, h1, if_pos rfl, show ((j : Int)).toNat = j by omega]
    rw [hc]
    have hd1 := (G.fit.inner L.there L.kind).d1
    have hdd := L.depth
    have m0 : DMid σ0 σ0 key 0 (j + 1) .nil 0 := by
      have := DMid.start (key := key) (d := j + 1) (st := 0) G (by omega) .nil (fun y hy => by rw [hz] at hy; cases hy)
      rw [heldS_zero] at this
      exact this
    rw [← h4] at hN
    have m1 := m0.join (by omega) (by omega) (by omega) hk hN (.inr rfl) (.inr (.inl h5))
    have hfold : Store.mk key j .nil (if kbit key j = 0 then tr else tl) = delT key j (.node tl tr) := by
      rw [← fold_node_r key j .nil h5, ← h3]
      conv => rhs; unfold delT
      by_cases hk : kbit key j = 0
      · rw [if_pos hk, if_pos hk, if_pos hk]
      · rw [if_neg hk, if_neg hk, if_neg hk]
    rw [hfold] at m1
    have hrepj : Rep (sk σ0) h j (.node tl tr) := .node L.there L.kind L.depth L.left L.right
    have hlen : (l.take j).length = j := by rw [List.length_take, Nat.min_eq_left (by omega)]
    have hup := DMid.up G hk L.way ht (tc := .node tl tr) (by rw [hlen, Nat.zero_add]; exact hrepj) hpre (by rw [hlen, Nat.zero_add]; exact m1) (by rw [hlen, Nat.zero_add, ← hfold]; exact mk_node ..) (by rw [hlen]; omega) (by rw [hlen]; omega)
    exact ⟨_, by rw [hlen]; omega, hup.1⟩
end
end Go.Proofs.YtpeebeebakjpdaaGreat.Store
