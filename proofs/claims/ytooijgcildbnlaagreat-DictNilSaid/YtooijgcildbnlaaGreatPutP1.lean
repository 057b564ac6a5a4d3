/- Proved contracts and plain laws of the layers below, several parts in one text. -/
import Derived.Test.YtooijgcildbnlaaGreatStoreP1
/- A key is put, plainly: what the calls come to. -/
namespace Go.Proofs.YtooijgcildbnlaaGreat.Store
open Go Go.RowKit Go.Proofs.YtooijgcildbnlaaGreat Go.Proofs.YtooijgcildbnlaaGreat.ShaW Go.Proofs.YtooijgcildbnlaaGreat.Path
set_option linter.unusedVariables false

noncomputable def joinS (σ : SlabSt Nd) (k : List UInt8) (d : Int) (own other : Int) : Int × Int × SlabSt Nd := innerS σ d (if bit k d = 1 then other else own) (if bit k d = 1 then own else other)
noncomputable def chainS (k : List UInt8) (lo : Nat) : Nat → SlabSt Nd → Int → Int × SlabSt Nd
  | 0, σ, now => (now, σ)
  | n + 1, σ, now => chainS k lo n (joinS σ k (lo + n : Nat) now 0).2.2 (joinS σ k (lo + n : Nat) now 0).1
/-- What lies beside a node's key's side. -/
def besideS (σ : SlabSt Nd) (k : List UInt8) (h : Int) (d : Nat) : Int := if bit k (d : Nat) = 1 then (nd σ h).left else (nd σ h).right
noncomputable def heldS (σ : SlabSt Nd) (o : Int) : SlabSt Nd := if o ≠ 0 then (holdS σ o).2 else σ
noncomputable def stepS (σ : SlabSt Nd) (k : List UInt8) (h : Int) (d : Nat) (now : Int) : Int × SlabSt Nd :=
  ((joinS (heldS σ (besideS σ k h d)) k (d : Nat) now (besideS σ k h d)).1, (joinS (heldS σ (besideS σ k h d)) k (d : Nat) now (besideS σ k h d)).2.2)
noncomputable def upL (k : List UInt8) : Nat → List Int → SlabSt Nd → Int → Int × SlabSt Nd
  | _, [], σ, now => (now, σ)
  | d, h :: l, σ, now => stepS (upL k (d + 1) l σ now).2 k h d (upL k (d + 1) l σ now).1
/-- The leaf, and what joins it with another key's leaf. -/
noncomputable def endS (σ : SlabSt Nd) (key value : List UInt8) (v : Value) (d : Nat) (e : Int) : Int × SlabSt Nd :=
  if (nd σ e).kind = 1 ∧ (nd σ e).key ≠ key then
    chainS key d (common key (nd σ e).key - d) (joinS (holdS (leafS σ key value v).2.2 e).2 key (common key (nd σ e).key : Nat) (leafS σ key value v).1 e).2.2 (joinS (holdS (leafS σ key value v).2.2 e).2 key (common key (nd σ e).key : Nat) (leafS σ key value v).1 e).1
  else ((leafS σ key value v).1, (leafS σ key value v).2.2)
noncomputable def madeS (σ : SlabSt Nd) (key value : List UInt8) (v : Value) (l : List Int) (e : Int) : Int × SlabSt Nd :=
  upL key 0 l (endS σ key value v l.length e).2 (endS σ key value v l.length e).1
/-- Put, where the key does not have the value. -/
noncomputable def putS (σ : SlabSt Nd) (root : Int) (key value : List UInt8) (v : Value) (l : List Int) (e : Int) : Int × SlabSt Nd :=
  ((madeS σ key value v l e).1, if root ≠ 0 then (dropS (madeS σ key value v l e).2 root).2.2 else (madeS σ key value v l e).2)
/-- Is the key there, with the value? -/
def sameS (σ : SlabSt Nd) (key value : List UInt8) (e : Int) : Bool := decide ((nd σ e).kind = 1) && (decide ((nd σ e).key = key) && decide ((nd σ e).value = value))
def otherS (σ : SlabSt Nd) (key : List UInt8) (e : Int) : Bool := decide ((nd σ e).kind = 1) && decide ((nd σ e).key ≠ key)
def atHand (σ : SlabSt Nd) (root : Int) : Int := if rootErr σ root ≠ 0 then rootErr σ root else if root ≠ 0 ∧ (nd σ root).held = 0 then 7 else 0

/-! ### all calls keep a store good -/
section
variable {σ : SlabSt Nd}
theorem Good.join (h : Good σ) (k : List UInt8) (d own other : Int) : Good (joinS σ k d own other).2.2 := h.inner _ _ _
theorem Good.chain {k : List UInt8} {lo : Nat} : ∀ (n : Nat) {σ : SlabSt Nd} (h : Good σ) (now : Int), Good (chainS k lo n σ now).2
  | 0, _, h, _ => h
  | n + 1, _, h, now => Good.chain n (h.join k _ now 0) _
theorem Good.heldS (h : Good σ) (o : Int) : Good (Store.heldS σ o) := by
  unfold Store.heldS
  split
  · exact h.hold o
  · exact h
theorem Good.step (h : Good σ) (k : List UInt8) (n : Int) (d : Nat) (now : Int) : Good (stepS σ k n d now).2 := (h.heldS _).join k _ _ _
theorem Good.up {k : List UInt8} : ∀ (l : List Int) (d : Nat) {σ : SlabSt Nd} (h : Good σ) (now : Int), Good (upL k d l σ now).2
  | [], _, _, h, _ => h
  | n :: l, d, _, h, now => (Good.up l (d + 1) h now).step k n d _
theorem Good.ended (h : Good σ) {key : List UInt8} (hk : key.length = 32) (value : List UInt8) (v : Value) (d : Nat) (e : Int) : Good (endS σ key value v d e).2 := by
  unfold endS
  split
  · exact Good.chain _ (((h.leaf key value v hk).hold e).join key _ _ _) _
  · exact h.leaf key value v hk
theorem Good.made (h : Good σ) {key : List UInt8} (hk : key.length = 32) (value : List UInt8) (v : Value) (l : List Int) (e : Int) : Good (madeS σ key value v l e).2 := Good.up l 0 (h.ended hk value v l.length e) _
theorem Good.put (h : Good σ) (root : Int) {key : List UInt8} (hk : key.length = 32) (value : List UInt8) (v : Value) (l : List Int) (e : Int) : Good (putS σ root key value v l e).2 := by
  unfold putS
  simp only
  split
  · exact (h.made hk value v l e).drop root
  · exact h.made hk value v l e

/-- What comes out of Inner may be dropped by who asked for it, and is a root at depth 0. -/
def Free (σ : SlabSt Nd) (h : Int) : Prop := h = 0 ∨ (1 ≤ held σ h ∧ ((nd σ h).kind = 2 → (nd σ h).depth = 0))
theorem Free.hand {h : Int} (hf : Free σ h) : atHand σ h = 0 := by
  unfold atHand rootErr
  rcases hf with rfl | ⟨h1, h2⟩
  · simp
  · obtain ⟨x, hx, hx1⟩ := held_there h1
    have h0 := get_ne hx
    rw [nd_some hx] at h2
    rw [has_some hx, nd_some hx]
    simp only [h0, if_false, Bool.true_eq_false]
    by_cases hk : x.1.kind = 2
    · simp [hk, h2 hk]; omega
    · simp [hk]; omega
theorem innerS_free (G : Good σ) (l r : Int) : Free (innerS σ 0 l r).2.2 (innerS σ 0 l r).1 := by
  by_cases he : (innerS σ 0 l r).1 = 0
  · exact .inl he
  · right
    unfold innerS at he ⊢
    by_cases h1 : (0 : Int) < 0 ∨ 255 < (0 : Int)
    · omega
    rw [if_neg h1] at he ⊢
    by_cases h2 : sideBad σ l ∨ sideBad σ r
    · rw [if_pos h2] at he; exact absurd rfl he
    rw [if_neg h2] at he ⊢
    by_cases h3 : fitsB 0 l r (nd σ l) (nd σ r) = false
    · rw [if_pos h3] at he; exact absurd rfl he
    rw [if_neg h3] at he ⊢
    by_cases h4 : (σ.take (innerNd σ 0 l r)).2.1 ≠ 0
    · rw [if_pos h4] at he; exact absurd rfl he
    rw [if_neg h4]
    simp only
    rcases take_cases G.sound.wf (innerNd σ 0 l r) with ⟨q1, _⟩ | ⟨m, q1, q2, q3, q4, q5, q6⟩
    · exact absurd q1 h4
    · rw [q1]
      have there : ∀ k, ¬ sideBad σ k → k ≠ (m : Int) + 1 := fun k hk e => by
        subst e
        exact hk ⟨by omega, .inl (has_none q3)⟩
      obtain ⟨n1, n2⟩ := not_or.1 h2
      have hb : ∀ (τ : SlabSt Nd) (k b : Int), k ≠ (m : Int) + 1 → (bump τ k b).get? ((m : Int) + 1) = τ.get? ((m : Int) + 1) := fun τ k b hk => by
        cases hx : τ.get? k with
        | none => rw [bump_absent hx]
        | some x => rw [bump_get hx, if_neg (Ne.symm hk)]
      have hg : (bump (bump (σ.take (innerNd σ 0 l r)).2.2 l (-1)) r (-1)).get? ((m : Int) + 1) = some (innerNd σ 0 l r, 1) := by
        rw [hb _ _ _ (there r n2), hb _ _ _ (there l n1), q4, if_pos rfl]
      rw [held_some hg, nd_some hg]
      exact ⟨Int.le_refl 1, fun _ => rfl⟩
theorem leafS_free (G : Good σ) (key value : List UInt8) (v : Value) : Free (leafS σ key value v).2.2 (leafS σ key value v).1 := by
  unfold leafS
  by_cases hv : 1024 < value.length
  · rw [if_pos hv]; exact .inl rfl
  · rw [if_neg hv]
    rcases take_cases G.sound.wf (Nd.leaf (Tag.leafD key (Tag.valueD value)) key (Tag.valueD value) value v) with ⟨q1, q2⟩ | ⟨m, q1, q2, q3, q4, q5, q6⟩
    · rw [q2]; exact .inl rfl
    · right
      rw [q1]
      have hg := q4 ((m : Int) + 1)
      rw [if_pos rfl] at hg
      rw [held_some hg, nd_some hg]
      exact ⟨Int.le_refl 1, fun hk => absurd (show (1 : Nat) = 2 from hk) (by decide)⟩
theorem chainS_free {k : List UInt8} : ∀ (n : Nat) {σ : SlabSt Nd} (G : Good σ) (now : Int), (n = 0 → Free σ now) → Free (chainS k 0 n σ now).2 (chainS k 0 n σ now).1
  | 0, _, _, _, h => h rfl
  | n + 1, σ, G, now, _ => chainS_free n (G.join k _ now 0) _ (fun hn => by
      subst hn
      exact innerS_free G _ _)
/-- The new root can be dropped later on. -/
theorem madeS_free (G : Good σ) {key : List UInt8} (hk : key.length = 32) (value : List UInt8) (v : Value) (l : List Int) (e : Int) : Free (madeS σ key value v l e).2 (madeS σ key value v l e).1 := by
  unfold madeS
  cases l with
  | nil =>
    show Free (endS σ key value v 0 e).2 (endS σ key value v 0 e).1
    unfold endS
    split
    · refine chainS_free _ (((G.leaf key value v hk).hold e).join key _ _ _) _ (fun hn => ?_)
      have hc : common key (nd σ e).key = 0 := by omega
      rw [hc]
      exact innerS_free ((G.leaf key value v hk).hold e) _ _
    · exact leafS_free G key value v
  | cons h l => exact innerS_free ((Good.up l 1 (G.ended hk value v (l.length + 1) e) _).heldS _) _ _
theorem putS_free (G : Good σ) (root : Int) (hr : atHand σ root = 0) {key : List UInt8} (hk : key.length = 32) (value : List UInt8) (v : Value) (l : List Int) (e : Int) (hne : (putS σ root key value v l e).1 ≠ root ∨ root = 0) : Free (putS σ root key value v l e).2 (putS σ root key value v l e).1 := by
  have hm := madeS_free G hk value v l e
  unfold putS at hne ⊢
  simp only at hne ⊢
  by_cases h0 : root = 0
  · rw [if_neg (by simpa using h0)]; exact hm
  · rw [if_pos h0]
    rcases hm with hm | ⟨m1, m2⟩
    · exact .inl hm
    · have hn := hne.resolve_right h0
      by_cases hh : 1 ≤ held (madeS σ key value v l e).2 root
      · obtain ⟨_, _, _, g3, _⟩ := dropS_spec (G.made hk value v l e).sound hh
        obtain ⟨p, q⟩ := g3 _ hn m1
        right
        rw [q]
        refine ⟨m1, fun hk2 => ?_⟩
        have e1 := ndF_sk (dropS (madeS σ key value v l e).2 root).2.2 (madeS σ key value v l e).1
        have e2 := ndF_sk (madeS σ key value v l e).2 (madeS σ key value v l e).1
        have e3 : stat (nd (dropS (madeS σ key value v l e).2 root).2.2 (madeS σ key value v l e).1) = stat (nd (madeS σ key value v l e).2 (madeS σ key value v l e).1) := by
          rw [← e1, ← e2]; unfold ndF; rw [p]
        have k1 : (nd (dropS (madeS σ key value v l e).2 root).2.2 (madeS σ key value v l e).1).kind = (nd (madeS σ key value v l e).2 (madeS σ key value v l e).1).kind := by have := congrArg Nd.kind e3; exact this
        have k2 : (nd (dropS (madeS σ key value v l e).2 root).2.2 (madeS σ key value v l e).1).depth = (nd (madeS σ key value v l e).2 (madeS σ key value v l e).1).depth := by have := congrArg Nd.depth e3; exact this
        rw [k2]
        exact m2 (by rw [← k1]; exact hk2)
      · have : dropS (madeS σ key value v l e).2 root = (0, 7, (madeS σ key value v l e).2) := by
          unfold dropS
          rw [if_neg]
          rintro ⟨p, q⟩
          obtain ⟨x, hx⟩ : ∃ x, (madeS σ key value v l e).2.get? root = some x := Option.isSome_iff_exists.1 p
          have h1 := (G.made hk value v l e).sound.held root x hx
          rw [nd_some hx] at q
          rw [held_some hx] at hh
          omega
        rw [this]
        exact .inr ⟨m1, m2⟩
end
end Go.Proofs.YtooijgcildbnlaaGreat.Store

/- A key is put, plainly: what comes out is the tree with the key in it. -/
namespace Go.Proofs.YtooijgcildbnlaaGreat.Store
open Go Go.RowKit Go.Proofs.YtooijgcildbnlaaGreat Go.Proofs.YtooijgcildbnlaaGreat.ShaW Go.Proofs.YtooijgcildbnlaaGreat.Path
set_option linter.unusedVariables false

section
variable {σ0 σ τ : SlabSt Nd} {key : List UInt8} {now other : Int} {d n : Nat} {t u : Tr}
theorem nd_stat {k : Int} {x : Nd} (hx : sk σ k = some x) : stat (nd σ k) = x := by rw [← ndF_sk]; exact ndF_some hx
theorem nd_key {k : Int} {x : Nd} (hx : sk σ k = some x) : (nd σ k).key = x.key := by have := congrArg Nd.key (nd_stat hx); exact this
theorem nd_kind {k : Int} {x : Nd} (hx : sk σ k = some x) : (nd σ k).kind = x.kind := by have := congrArg Nd.kind (nd_stat hx); exact this
theorem nd_left {k : Int} {x : Nd} (hx : sk σ k = some x) : (nd σ k).left = x.left := by have := congrArg Nd.left (nd_stat hx); exact this
theorem nd_right {k : Int} {x : Nd} (hx : sk σ k = some x) : (nd σ k).right = x.right := by have := congrArg Nd.right (nd_stat hx); exact this
theorem nd_value {k : Int} {x : Nd} (hx : sk σ k = some x) : (nd σ k).value = x.value := by have := congrArg Nd.value (nd_stat hx); exact this
theorem nd_gone {k : Int} (hx : sk σ k = none) : (nd σ k).kind = 0 := by
  cases hg : σ.get? k with
  | none => rw [nd_none hg]; rfl
  | some x => rw [sk_some hg] at hx; cases hx
theorem held_nonneg (hs : Sound σ []) (k : Int) : 0 ≤ held σ k := by
  cases hx : σ.get? k with
  | none => rw [held_none hx]; omega
  | some x => rw [held_some hx]; exact hs.held k x hx
theorem SideOk.side {k : Int} (h : SideOk σ k) : k = 0 ∨ ∃ y, sk σ k = some y := h.ok.imp id fun h => by
  obtain ⟨x, hx, _⟩ := held_there h
  exact ⟨_, sk_some hx⟩

theorem heldS_spec (G : Good σ) (ho : other = 0 ∨ ∃ y, sk σ other = some y) (hc : total σ < 1073741824) :
    (∀ k, sk (heldS σ other) k = sk σ k) ∧ (∀ k, held (heldS σ other) k = if k ≠ 0 ∧ k = other then held σ k + 1 else held σ k) ∧
      live (heldS σ other) = live σ ∧ total (heldS σ other) ≤ total σ + 1 ∧ (heldS σ other).room = σ.room := by
  rcases ho with rfl | ⟨y, hy⟩
  · have : heldS σ 0 = σ := by unfold heldS; rw [if_neg (by simp)]
    rw [this]
    refine ⟨fun _ => rfl, fun k => ?_, rfl, by omega, rfl⟩
    rw [if_neg (fun h => h.1 h.2)]
  · have h0 : other ≠ 0 := G.fit.ne hy
    have : heldS σ other = (holdS σ other).2 := by unfold heldS; rw [if_pos h0]
    rw [this]
    obtain ⟨x, hx, rfl⟩ := sk_get hy
    have hle := count_le hx
    obtain ⟨_, h2, h3, h4, h5, h6⟩ := holdS_spec G.sound hx (by omega)
    refine ⟨h2, fun k => ?_, h4, by omega, h6⟩
    rw [h3]
    by_cases hk : k = other
    · rw [if_pos hk, if_pos ⟨hk ▸ h0, hk⟩, hk]
    · rw [if_neg hk, if_neg (fun h => hk h.2)]

/-- What Inner makes, as a tree. -/
theorem inner_rep (G : Good τ) (hu : τ.used < τ.room) (hd : d ≤ 255) {l r : Int} (sl : SideOk τ l) (sr : SideOk τ r) (hf : fitsB d l r (nd τ l) (nd τ r) = true) {tl tr : Tr}
    (rl : Rep (sk τ) l (d + 1) tl) (rr : Rep (sk τ) r (d + 1) tr) (pl : ∀ y, sk τ l = some y → Pre y.key key d) (pr : ∀ y, sk τ r = some y → Pre y.key key d) :
    Rep (sk (innerS τ d l r).2.2) (innerS τ d l r).1 d (.node tl tr) ∧ ∃ y, sk (innerS τ d l r).2.2 (innerS τ d l r).1 = some y ∧ Pre y.key key d := by
  obtain ⟨_, _, h2, h3, _⟩ := innerS_spec G.sound hu (by omega) (by omega) sl sr hf
  have hgrow : ∀ k x, sk τ k = some x → sk (innerS τ d l r).2.2 k = some x := fun k x hx => by
    rw [h3, if_neg (fun e => by rw [e, h2] at hx; cases hx)]
    exact hx
  have hnew := h3 (innerS τ d l r).1
  rw [if_pos rfl] at hnew
  refine ⟨.node hnew rfl rfl (rl.grow hgrow) (rr.grow hgrow), _, hnew, ?_⟩
  show Pre (Path.first (if l = 0 then (nd τ r).key else (nd τ l).key) d) key d
  by_cases h0 : l = 0
  · rw [if_pos h0]
    obtain ⟨y, hy⟩ := sr.side.resolve_left (fits_lone_r hf h0).1
    rw [nd_key hy]
    exact (first_pre _ d).trans (pr y hy)
  · rw [if_neg h0]
    obtain ⟨y, hy⟩ := sl.side.resolve_left h0
    rw [nd_key hy]
    exact (first_pre _ d).trans (pl y hy)

/-- In the midst of a Put: n nodes have been made, the last one is now. -/
structure PutMid (σ0 σ : SlabSt Nd) (key : List UInt8) (now : Int) (d : Nat) (t : Tr) (n : Nat) : Prop where
  good : Good σ
  old : ∀ k x, sk σ0 k = some x → sk σ k = some x ∧ held σ k = held σ0 k
  fresh : sk σ0 now = none
  there : ∃ y, sk σ now = some y ∧ Pre y.key key d
  one : held σ now = 1
  only : ∀ k, 1 ≤ held σ k → k = now ∨ 1 ≤ held σ0 k
  rep : Rep (sk σ) now d t
  live : live σ = live σ0 + n
  total : total σ ≤ total σ0 + 2 * n
  room : σ.room = σ0.room
theorem PutMid.ne (h : PutMid σ0 σ key now d t n) : now ≠ 0 := by obtain ⟨y, hy, _⟩ := h.there; exact h.good.fit.ne hy
theorem Rep.node_depth {f : View} {h : Int} {x : Nd} (hr : Rep f h d t) (hx : f h = some x) (hz : f 0 = none) : x.kind = 2 → x.depth = (d : Nat) := fun hk => by
  cases hr with
  | nil => rw [hz] at hx; cases hx
  | leaf hn h1 => rw [hn] at hx; cases hx; omega
  | node hn _ h2 _ _ => rw [hn] at hx; cases hx; exact h2
theorem Rep.isNode' {f : View} (hz : f 0 = none) {h : Int} {x : Nd} (hr : Rep f h d t) (hx : f h = some x) (hk : x.kind = 2) : t.isNode = true := by
  cases hr with
  | nil => rw [hz] at hx; cases hx
  | leaf hn h1 => rw [hn] at hx; cases hx; omega
  | node _ _ _ _ _ => rfl
theorem Rep.isNode {f : View} {h : Int} {x : Nd} (hr : Rep f h d t) (hx : f h = some x) (hz : f 0 = none) (ht : t.isNode = true) : x.kind = 2 := by
  cases hr with
  | nil => cases ht
  | leaf hn h1 => cases ht
  | node hn hk _ _ _ => rw [hn] at hx; cases hx; exact hk
theorem On.rep_end {f : View} (hz : f 0 = none) {h : Int} {l : List Int} {e : Int} (ho : On f key h d l e) : ∀ {t : Tr}, Rep f h d t → ∃ te, Rep f e (d + l.length) te := by
  induction ho with
  | stop _ => exact fun ht => ⟨_, ht⟩
  | @step h d x l e hn hk hd hr ih =>
    intro t ht
    have e1 : d + (h :: l).length = d + 1 + l.length := by simp only [List.length_cons]; omega
    rw [e1]
    cases ht with
    | nil => rw [hz] at hn; cases hn
    | leaf hn' hk' => rw [hn] at hn'; cases hn'; omega
    | @node _ _ x' tl tr hn' _ _ hl hr' =>
      rw [hn] at hn'
      cases hn'
      exact ih (t := if kbit key d = 0 then tl else tr) (by split <;> assumption)
/-- A leaf is made. -/
theorem PutMid.start (G : Good σ0) (hu : Store.live σ0 < σ0.room) (hk : key.length = 32) (value : List UInt8) (v : Value) (hv : value.length ≤ 1024) (d : Nat) :
    PutMid σ0 (leafS σ0 key value v).2.2 key (leafS σ0 key value v).1 d (.leaf key value) 1 := by
  obtain ⟨_, h1, h2, h3, h4, h5, h6, h7⟩ := leafS_spec G.sound (by rw [G.used]; exact hu) key value v hv
  have hnew := h3 (leafS σ0 key value v).1
  rw [if_pos rfl] at hnew
  refine ⟨G.leaf key value v hk, fun k x hx => ?_, h2, ⟨_, hnew, fun _ _ => rfl⟩, by rw [h4, if_pos rfl], fun k hk => ?_, .leaf hnew rfl, by omega, by omega, h7⟩
  · have : k ≠ (leafS σ0 key value v).1 := fun e => by rw [e, h2] at hx; cases hx
    rw [h3, h4, if_neg this, if_neg this]
    exact ⟨hx, rfl⟩
  · rw [h4] at hk
    by_cases e : k = (leafS σ0 key value v).1
    · exact .inl e
    · rw [if_neg e] at hk; exact .inr hk
/-- What is beside: nothing, or a tree of before with other keys. -/
def Beside (σ0 : SlabSt Nd) (key : List UInt8) (d : Nat) (t : Tr) (other : Int) (u : Tr) : Prop :=
  (other = 0 ∧ u = .nil ∧ t.isNode = true) ∨ ∃ y, sk σ0 other = some y ∧ Rep (sk σ0) other (d + 1) u ∧ Pre y.key key d ∧ kbit y.key d ≠ kbit key d
theorem PutMid.join (h : PutMid σ0 σ key now (d + 1) t n) (hd : d ≤ 255) (hroom : Store.live σ0 + n < σ0.room) (htot : Store.total σ0 + 2 * n + 2 < 1073741824) (hk : key.length = 32) (ho : Beside σ0 key d t other u) :
    PutMid σ0 (joinS (heldS σ other) key (d : Nat) now other).2.2 key (joinS (heldS σ other) key (d : Nat) now other).1 d (Store.mk key d t u) (n + 1) := by
  obtain ⟨y, hy, hyp⟩ := h.there
  have hz := h.good.fit.zero
  have h0 := h.ne
  have hother : other = 0 ∨ ∃ z, sk σ other = some z ∧ Rep (sk σ) other (d + 1) u ∧ Pre z.key key d ∧ kbit z.key d ≠ kbit key d := by
    rcases ho with ⟨e, _, _⟩ | ⟨z, z1, z2, z3, z4⟩
    · exact .inl e
    · exact .inr ⟨z, (h.old _ _ z1).1, z2.grow (fun k x hx => (h.old k x hx).1), z3, z4⟩
  have hno : now ≠ other := fun e => by
    rcases ho with ⟨e2, _, _⟩ | ⟨z, z1, _⟩
    · exact h0 (e.trans e2)
    · rw [← e, h.fresh] at z1; cases z1
  obtain ⟨s1, s2, s3, s4, s5⟩ := heldS_spec h.good (other := other) (hother.imp id fun ⟨z, z1, _⟩ => ⟨z, z1⟩) (by have := h.total; omega)
  have G := h.good.heldS other
  have e0 : sk (heldS σ other) = sk σ := funext s1
  obtain ⟨τ, hτ⟩ : ∃ τ, τ = heldS σ other := ⟨_, rfl⟩
  rw [← hτ] at s1 s2 s3 s4 s5 G e0 ⊢
  have hu : τ.used < τ.room := by rw [G.used, s3, s5, h.room]; have := h.live; omega
  have snow : SideOk τ now := ⟨.inr (by rw [s2, if_neg (fun e => hno e.2)]; have := h.one; omega)⟩
  have soth : SideOk τ other := ⟨by
    by_cases e : other = 0
    · exact .inl e
    · right
      rw [s2, if_pos ⟨e, rfl⟩]
      have := held_nonneg h.good.sound other
      omega⟩
  have rnow : Rep (sk τ) now (d + 1) t := by rw [e0]; exact h.rep
  have roth : Rep (sk τ) other (d + 1) u := by
    rw [e0]
    rcases ho with ⟨e, e2, _⟩ | ⟨z, z1, z2, z3, z4⟩
    · rw [e, e2]; exact .nil
    · exact z2.grow (fun k x hx => (h.old k x hx).1)
  have pnow : ∀ y, sk τ now = some y → Pre y.key key d := fun x hx => by
    rw [e0, hy] at hx
    cases hx
    exact hyp.less (by omega)
  have poth : ∀ y, sk τ other = some y → Pre y.key key d ∧ kbit y.key d ≠ kbit key d := fun x hx => by
    rw [e0] at hx
    rcases hother with e | ⟨z, z1, z2, z3, z4⟩
    · rw [e, hz] at hx; cases hx
    · rw [z1] at hx; cases hx; exact ⟨z3, z4⟩
  have nnow : ndF (sk τ) now = y := ndF_some (by rw [e0]; exact hy)
  have hyt : sk τ now = some y := by rw [e0]; exact hy
  have hzt : sk τ 0 = none := by rw [e0]; exact hz
  have ydep : y.kind = 2 → y.depth = (d : Int) + 1 := fun hk => by have := rnow.node_depth hyt hzt hk; omega
  have ybit : kbit y.key d = kbit key d := hyp d (by omega)
  have yb : bit y.key (d : Nat) = (kbit key d : Nat) := by rw [bit_in (by omega), ybit]
  have yfit : fitB y (d : Nat) (kbit key d : Nat) = true := fitB_of ydep yb
  have ofit : other ≠ 0 → ∃ z, sk τ other = some z ∧ ndF (sk τ) other = z ∧ fitB z (d : Nat) (1 - kbit key d : Nat) = true ∧ (d : Int) ≤ (common y.key z.key : Nat) ∧ (d : Int) ≤ (common z.key y.key : Nat) := fun e => by
    obtain ⟨z, z1⟩ := soth.side.resolve_left e
    obtain ⟨z3, z4⟩ := poth z z1
    have zl : z.key.length = 32 := (G.fit.all _ _ z1).key
    have yl : y.key.length = 32 := (G.fit.all _ _ hyt).key
    refine ⟨z, z1, ndF_some z1, fitB_of (fun hk => by have := roth.node_depth z1 hzt hk; omega) ?_, ?_, ?_⟩
    · rw [bit_in (by omega)]
      rcases kbit_cases z.key d with h1 | h1 <;> rcases kbit_cases key d with h2 | h2 <;> rw [h1, h2] at z4 ⊢
      · exact absurd rfl z4
      · exact absurd rfl z4
    · have := le_common yl zl (d := d) (by omega) ((pnow y hyt).trans z3.symm); omega
    · have := le_common zl yl (d := d) (by omega) (z3.trans (pnow y hyt).symm); omega
  have olone : other = 0 → y.kind = 2 := fun e => by
    rcases ho with ⟨_, _, e3⟩ | ⟨z, z1, _⟩
    · exact rnow.isNode hyt hzt e3
    · have := h.old _ _ z1; rw [e, hz] at this; cases this.1
  -- the rest is alike for both sides
  have key1 : ∀ l r : Int, SideOk τ l → SideOk τ r → fitsB (d : Nat) l r (nd τ l) (nd τ r) = true → (l = now ∧ r = other ∨ l = other ∧ r = now) → ∀ T : Tr, Rep (sk (innerS τ (d : Nat) l r).2.2) (innerS τ (d : Nat) l r).1 d T →
      (∃ y, sk (innerS τ (d : Nat) l r).2.2 (innerS τ (d : Nat) l r).1 = some y ∧ Pre y.key key d) → PutMid σ0 (innerS τ (d : Nat) l r).2.2 key (innerS τ (d : Nat) l r).1 d T (n + 1) := fun l r sl sr hf hlr T hT hP => by
    obtain ⟨_, q1, q2, q3, q4, q5, q6, q7⟩ := innerS_spec G.sound hu (d := (d : Nat)) (by omega) (by omega) sl sr hf
    have hold : ∀ k x, sk σ0 k = some x → k ≠ (innerS τ (d : Nat) l r).1 := fun k x hx e => by
      have := (h.old k x hx).1
      rw [← s1, e, q2] at this
      cases this
    refine ⟨G.inner _ _ _, fun k x hx => ?_, ?_, hP, by rw [q4, if_pos rfl], fun k hk => ?_, hT, by have := h.live; omega, by have := h.total; omega, by rw [q7, s5, h.room]⟩
    · have hk1 := hold k x hx
      obtain ⟨p1, p2⟩ := h.old k x hx
      have hk2 : k ≠ now := fun e => by rw [e, h.fresh] at hx; cases hx
      rw [q3, if_neg hk1, s1, q4, if_neg hk1]
      refine ⟨p1, ?_⟩
      rw [s2]
      have hk0 : k ≠ 0 := fun e => by rw [e, hz] at p1; cases p1
      by_cases hko : k = other
      · have hor : k = l ∨ k = r := by
          rcases hlr with ⟨_, e⟩ | ⟨e, _⟩
          · exact .inr (by rw [hko, e])
          · exact .inl (by rw [hko, e])
        rw [if_pos ⟨hk0, hor⟩, if_pos ⟨hk0, hko⟩, p2]
        omega
      · rw [if_neg, if_neg (fun e => hko e.2), p2]
        rintro ⟨_, e | e⟩ <;> rcases hlr with ⟨e1, e2⟩ | ⟨e1, e2⟩
        · exact hk2 (e.trans e1)
        · exact hko (e.trans e1)
        · exact hko (e.trans e2)
        · exact hk2 (e.trans e2)
    · cases hx : sk σ0 (innerS τ (d : Nat) l r).1 with
      | none => rfl
      | some x => exact absurd rfl (hold _ x hx)
    · rw [q4] at hk
      by_cases e : k = (innerS τ (d : Nat) l r).1
      · exact .inl e
      · right
        rw [if_neg e] at hk
        have hk0 : k ≠ 0 := fun e0 => by
          have hz0 : held τ k = 0 := by
            rw [e0]
            unfold held nd
            rfl
          split at hk <;> omega
        by_cases hkn : k = now
        · exfalso
          have hor : k = l ∨ k = r := by
            rcases hlr with ⟨e1, _⟩ | ⟨_, e1⟩
            · exact .inl (by rw [hkn, e1])
            · exact .inr (by rw [hkn, e1])
          rw [if_pos ⟨hk0, hor⟩, hkn, s2, if_neg (fun e => hno e.2), h.one] at hk
          omega
        · have hsk : 1 ≤ held σ k := by
            by_cases hko : k = other
            · have hor : k = l ∨ k = r := by
                rcases hlr with ⟨_, e1⟩ | ⟨e1, _⟩
                · exact .inr (by rw [hko, e1])
                · exact .inl (by rw [hko, e1])
              rw [if_pos ⟨hk0, hor⟩, s2, if_pos ⟨hk0, hko⟩] at hk
              omega
            · rw [if_neg, s2, if_neg (fun e => hko e.2)] at hk
              · exact hk
              · rintro ⟨_, e1 | e1⟩ <;> rcases hlr with ⟨e2, e3⟩ | ⟨e2, e3⟩
                · exact hkn (e1.trans e2)
                · exact hko (e1.trans e2)
                · exact hko (e1.trans e3)
                · exact hkn (e1.trans e3)
          exact (h.only k hsk).resolve_left hkn
  have hb : bit key (d : Nat) = (kbit key d : Nat) := bit_in (by omega)
  unfold joinS Store.mk
  rcases kbit_cases key d with hb0 | hb1
  · rw [hb, hb0]
    simp only [show ((0 : Nat) : Int) ≠ 1 by decide, if_false, if_true]
    have hf : fitsB (d : Nat) now other (nd τ now) (nd τ other) = true := by
      rw [fitsB_sk, nnow]
      unfold fitsB
      rw [if_neg h0]
      rw [hb0] at yfit ofit
      by_cases e : other = 0
      · rw [if_pos e]; simp only [olone e, decide_true, Bool.true_and]; exact yfit
      · rw [if_neg e]
        obtain ⟨z, z1, z2, z3, z4, z5⟩ := ofit e
        rw [z2, show fitB y (d : Nat) 0 = true from yfit, show fitB z (d : Nat) 1 = true from z3, decide_eq_true z4]
        rfl
    obtain ⟨hT, hP⟩ := inner_rep G hu hd snow soth hf rnow roth pnow (fun y hy => (poth y hy).1)
    exact key1 now other snow soth hf (.inl ⟨rfl, rfl⟩) _ hT hP
  · rw [hb, hb1]
    simp only [show ((1 : Nat) : Int) = 1 from rfl, show ¬ ((1 : Nat) = 0) by decide, if_false, if_true]
    have hf : fitsB (d : Nat) other now (nd τ other) (nd τ now) = true := by
      rw [fitsB_sk, nnow]
      unfold fitsB
      rw [hb1] at yfit ofit
      by_cases e : other = 0
      · rw [if_pos e, if_neg h0]; simp only [olone e, decide_true, Bool.true_and]; exact yfit
      · rw [if_neg e, if_neg h0]
        obtain ⟨z, z1, z2, z3, z4, z5⟩ := ofit e
        rw [z2, show fitB y (d : Nat) 1 = true from yfit, show fitB z (d : Nat) 0 = true from z3, decide_eq_true z5]
        rfl
    obtain ⟨hT, hP⟩ := inner_rep G hu hd soth snow hf roth rnow (fun y hy => (poth y hy).1) pnow
    exact key1 other now soth snow hf (.inr ⟨rfl, rfl⟩) _ hT hP
theorem heldS_zero (σ : SlabSt Nd) : heldS σ 0 = σ := by unfold heldS; rw [if_neg (by simp)]
/-- A chain of nodes with one side. -/
theorem PutMid.chain (hk : key.length = 32) (lo : Nat) : ∀ (m : Nat) {σ : SlabSt Nd} {now : Int} {t : Tr} {n : Nat}, PutMid σ0 σ key now (lo + m) t n → lo + m ≤ 256 → Store.live σ0 + n + m ≤ σ0.room → Store.total σ0 + 2 * n + 2 * m + 2 < 1073741824 → (m = 0 ∨ t.isNode = true) →
    PutMid σ0 (chainS key lo m σ now).2 key (chainS key lo m σ now).1 lo (chainT key lo m t) (n + m)
  | 0, _, _, _, _, h, _, _, _, _ => h
  | m + 1, σ, now, t, n, h, h1, h2, h3, h4 => by
    have hj := PutMid.join (d := lo + m) (other := 0) (u := .nil) h (by omega) (by omega) (by omega) hk (.inl ⟨rfl, rfl, h4.resolve_left (by omega)⟩)
    rw [heldS_zero] at hj
    have := PutMid.chain hk lo m hj (by omega) (by omega) (by omega) (.inr (mk_node ..))
    rw [show n + (m + 1) = n + 1 + m by omega]
    exact this
/-- How many nodes are made: for the leaf, and for what joins it with another one. -/
def endCost (σ : SlabSt Nd) (key : List UInt8) (d : Nat) (e : Int) : Nat := if (nd σ e).kind = 1 ∧ (nd σ e).key ≠ key then common key (nd σ e).key - d + 2 else 1
theorem ins_end (σ : SlabSt Nd) (G : Good σ) {e : Int} {te : Tr} (hd : d ≤ 256) (he : Rep (sk σ) e d te) (hs : e = 0 ∨ ∃ x, sk σ e = some x ∧ x.kind ≠ 2) (v : List UInt8) :
    ins key v d te = if (nd σ e).kind = 1 ∧ (nd σ e).key ≠ key then chainT key d (common key (nd σ e).key - d) (Store.mk key (common key (nd σ e).key) (.leaf key v) (.leaf (nd σ e).key (nd σ e).value)) else .leaf key v := by
  cases he with
  | nil =>
    rw [if_neg (fun h => by have := h.1; exact absurd (show (0 : Nat) = 1 from this) (by decide))]
    rfl
  | leaf hn h1 =>
    rw [nd_kind hn, nd_key hn, nd_value hn]
    unfold ins
    rename_i n
    by_cases hk : n.key = key
    · rw [if_pos hk, if_neg (fun h => h.2 hk)]
    · rw [if_neg hk, if_pos ⟨h1, hk⟩]
  | node hn hk _ _ _ =>
    rcases hs with e0 | ⟨x, hx, hx2⟩
    · exact absurd e0 (G.fit.ne hn)
    · rw [hn] at hx; cases hx; exact absurd hk hx2
theorem PutMid.ended (G : Good σ0) (hk : key.length = 32) (value : List UInt8) (v : Value) (hv : value.length ≤ 1024) (hd : d ≤ 256) {e : Int} {te : Tr} (he : Rep (sk σ0) e d te) (hs : e = 0 ∨ ∃ x, sk σ0 e = some x ∧ x.kind ≠ 2)
    (hp : ∀ x, sk σ0 e = some x → Pre x.key key d) (hroom : Store.live σ0 + endCost σ0 key d e ≤ σ0.room) (htot : Store.total σ0 + 2 * endCost σ0 key d e + 2 < 1073741824) :
    PutMid σ0 (endS σ0 key value v d e).2 key (endS σ0 key value v d e).1 d (ins key value d te) (endCost σ0 key d e) := by
  rw [ins_end σ0 G hd he hs]
  unfold endS endCost at *
  by_cases hc : (nd σ0 e).kind = 1 ∧ (nd σ0 e).key ≠ key
  · rw [if_pos hc] at hroom htot
    rw [if_pos hc, if_pos hc, if_pos hc]
    obtain ⟨x, hx⟩ : ∃ x, sk σ0 e = some x := by
      cases hx : sk σ0 e with
      | none => have := nd_gone hx; have := hc.1; omega
      | some x => exact ⟨x, rfl⟩
    have e0 := G.fit.ne hx
    have ek := nd_key hx
    have ev := nd_value hx
    have hk1 : x.kind = 1 := by rw [← nd_kind hx]; exact hc.1
    rw [ek] at hc hroom htot ⊢
    rw [ev]
    have xl : x.key.length = 32 := (G.fit.all _ _ hx).key
    have hdc := le_common hk xl hd (hp x hx).symm
    obtain ⟨c1, c2, c3⟩ := common_spec key x.key (by omega) (Ne.symm hc.2)
    rw [hk] at c1
    obtain ⟨c, hcc⟩ : ∃ c, c = common key x.key := ⟨_, rfl⟩
    rw [← hcc] at hdc c1 c2 c3 hroom htot ⊢
    have m1 := PutMid.start G (by omega) hk value v hv (c + 1)
    have hj := m1.join (other := e) (u := .leaf x.key x.value) (by omega) (by omega) (by omega) hk (.inr ⟨x, hx, .leaf hx hk1, c2.symm, Ne.symm c3⟩)
    have eh : heldS (leafS σ0 key value v).2.2 e = (holdS (leafS σ0 key value v).2.2 e).2 := by unfold heldS; rw [if_pos e0]
    rw [eh] at hj
    have := PutMid.chain hk d (c - d) (show PutMid σ0 _ key _ (d + (c - d)) _ _ by rw [show d + (c - d) = c by omega]; exact hj) (by omega) (by omega) (by omega) (.inr (mk_node ..))
    rw [show c - d + 2 = 1 + 1 + (c - d) by omega]
    exact this
  · rw [if_neg hc] at hroom htot
    rw [if_neg hc, if_neg hc, if_neg hc]
    exact PutMid.start G (by omega) hk value v hv d
theorem ins_isNode (k v : List UInt8) (d : Nat) {t : Tr} (h : t.isNode = true) : (ins k v d t).isNode = true := by
  cases t with
  | nil => cases h
  | leaf _ _ => cases h
  | node l r => unfold ins; split <;> rfl
theorem Rep.zero {f : View} (hz : f 0 = none) (h : Rep f 0 d t) : t = .nil := h.det hz .nil
/-- The nodes above are made anew. -/
theorem PutMid.up (G : Good σ0) (hk : key.length = 32) (value : List UInt8) {σ : SlabSt Nd} {now : Int} {n : Nat} {te : Tr} {h : Int} {l : List Int} {e : Int} (ho : On (sk σ0) key h d l e) : ∀ {t : Tr}, Rep (sk σ0) h d t → Rep (sk σ0) e (d + l.length) te →
    (∀ x, sk σ0 h = some x → Pre x.key key d) → PutMid σ0 σ key now (d + l.length) (ins key value (d + l.length) te) n → Store.live σ0 + n + l.length ≤ σ0.room → Store.total σ0 + 2 * n + 2 * l.length + 2 < 1073741824 →
    PutMid σ0 (upL key d l σ now).2 key (upL key d l σ now).1 d (ins key value d t) (n + l.length) := by
  have hz := G.fit.zero
  induction ho with
  | stop _ =>
    intro t ht he _ hm _ _
    rw [ht.det hz he]
    exact hm
  | @step h d x l e hn h2 hd hr ih =>
    intro t ht he hp hm hroom htot
    have hp' := hp x hn
    have hd1 := (G.fit.inner hn h2).d1
    obtain ⟨w1, w2⟩ := G.fit.way hn h2 hd hp'
    have hlen : ∀ a : Nat, a + (h :: l).length = a + 1 + l.length := fun a => by simp only [List.length_cons]; omega
    cases ht with
    | nil => rw [hz] at hn; cases hn
    | leaf hn' hk' => rw [hn] at hn'; cases hn'; omega
    | @node _ _ x' tl tr hn' _ _ hl hr' =>
      rw [hn] at hn'
      cases hn'
      rw [hlen] at he hm
      have hrown : Rep (sk σ0) (if kbit key d = 0 then x.left else x.right) (d + 1) (if kbit key d = 0 then tl else tr) := by split <;> assumption
      have hroth : Rep (sk σ0) (if kbit key d = 0 then x.right else x.left) (d + 1) (if kbit key d = 0 then tr else tl) := by split <;> assumption
      have hm1 := ih hrown he w1 hm (by rw [List.length_cons] at hroom; omega) (by rw [List.length_cons] at htot; omega)
      have hsk := (hm1.old h x hn).1
      have hbs : besideS (upL key (d + 1) l σ now).2 key h d = (if kbit key d = 0 then x.right else x.left) := by
        unfold besideS
        rw [nd_left hsk, nd_right hsk, bit_in (show d < 256 by omega)]
        rcases kbit_cases key d with hb | hb
        · rw [hb]; rfl
        · rw [hb]; rfl
      have hi := G.fit.inner hn h2
      have hB : Beside σ0 key d (ins key value (d + 1) (if kbit key d = 0 then tl else tr)) (if kbit key d = 0 then x.right else x.left) (if kbit key d = 0 then tr else tl) := by
        by_cases h0 : (if kbit key d = 0 then x.right else x.left) = 0
        · refine .inl ⟨h0, ?_, ins_isNode _ _ _ ?_⟩
          · rw [h0] at hroth; exact hroth.zero hz
          · rcases kbit_cases key d with hb | hb
            · rw [if_pos hb] at h0 ⊢
              rw [if_pos hb, if_pos hb] at hrown
              obtain ⟨q1, q2⟩ := fits_lone_l hi.fits h0
              obtain ⟨y, hy⟩ := hi.left.resolve_left q1
              rw [ndF_some hy] at q2
              exact hrown.isNode' hz hy q2
            · have hb : ¬ kbit key d = 0 := by omega
              rw [if_neg hb] at h0 ⊢
              rw [if_neg hb, if_neg hb] at hrown
              obtain ⟨q1, q2⟩ := fits_lone_r hi.fits h0
              obtain ⟨y, hy⟩ := hi.right.resolve_left q1
              rw [ndF_some hy] at q2
              exact hrown.isNode' hz hy q2
        · obtain ⟨y, hy⟩ := hroth.live.resolve_left h0
          obtain ⟨p1, p2⟩ := w2 y hy
          exact .inr ⟨y, hy, hroth, p1, p2⟩
      have hj := hm1.join (by omega) (by rw [List.length_cons] at hroom; omega) (by rw [List.length_cons] at htot; omega) hk hB
      rw [← hbs] at hj
      have e1 : Store.mk key d (ins key value (d + 1) (if kbit key d = 0 then tl else tr)) (if kbit key d = 0 then tr else tl) = ins key value d (.node tl tr) := by
        conv => rhs; unfold ins
        unfold Store.mk
        split <;> rfl
      rw [e1] at hj
      exact hj

/-- A drop takes one hold away, and no other. -/
theorem dropS_held (hs : Sound σ []) {h : Int} (hh : 1 ≤ held σ h) (k : Int) : held (dropS σ h).2.2 k = 0 ∨ held (dropS σ h).2.2 k = if k = h then held σ h - 1 else held σ k := by
  obtain ⟨x, hx, hx1⟩ := held_there hh
  have hc : has σ h = true ∧ (nd σ h).held ≠ 0 := ⟨has_some hx, by rw [nd_some hx]; omega⟩
  have hde : dropS σ h = ((((sweep (bump σ h (-1)) [h] 0).1 : Nat) : Int), (0 : Int), (sweep (bump σ h (-1)) [h] 0).2) := by unfold dropS; rw [if_pos hc]
  have hs1 : Sound (bump σ h (-1)) [h] := hs.bump hx (by omega) (by omega) (by simp) (fun k hk => by simp [Ne.symm hk])
  obtain ⟨q1, q2, q3, q4⟩ := sweep_sound _ _ 0 hs1
  have hcm : x.1.held ≤ 1073741824 := by
    obtain ⟨j, hj, hj1, _, _⟩ := SlabSt.get?_some hx
    have q1 := hs.wf.counts x (List.mem_of_getElem? hj1)
    have q2 := held_le hs hx
    omega
  rw [hde]
  simp only
  cases hg : (sweep (bump σ h (-1)) [h] 0).2.get? k with
  | none => exact .inl (held_none hg)
  | some y =>
    right
    obtain ⟨c, hy⟩ := q4 k y hg
    have e1 : held (sweep (bump σ h (-1)) [h] 0).2 k = held (bump σ h (-1)) k := by rw [held_some hg, held_some hy]
    rw [e1, held_bump hx, held_some hx]
    split
    · rw [wrap_up (by omega) (by omega)]; omega
    · rfl
/-- What Put comes to. -/
structure PutOk (σ0 σ : SlabSt Nd) (root r : Int) (t : Tr) (n : Nat) : Prop where
  good : Good σ
  rep : Rep (sk σ) r 0 t
  ne : r ≠ 0
  mine : held σ r = 1
  only : ∀ k, 1 ≤ held σ k → k = r ∨ (1 ≤ held σ0 k ∧ (k = root → 2 ≤ held σ0 k))
  fresh : sk σ0 r = none
  others : ∀ k, k ≠ root → 1 ≤ held σ0 k → sk σ k = sk σ0 k ∧ held σ k = held σ0 k
  self : 2 ≤ held σ0 root → sk σ root = sk σ0 root ∧ held σ root = held σ0 root - 1
  live : live σ ≤ live σ0 + n
  total : total σ ≤ total σ0 + 2 * n
  room : σ.room = σ0.room
  keeps : ∀ k d t, k ≠ root → 1 ≤ held σ0 k → Rep (sk σ0) k d t → Rep (sk σ) k d t
def putCost (σ : SlabSt Nd) (key : List UInt8) (l : List Int) (e : Int) : Nat := endCost σ key l.length e + l.length
theorem putCost_le (G : Good σ0) (hk : key.length = 32) {root : Int} {l : List Int} {e : Int} (ho : On (sk σ0) key root 0 l e) : putCost σ0 key l e ≤ 258 := by
  have hl := ho.len G.fit (by omega)
  unfold putCost endCost
  split
  · rename_i hc
    obtain ⟨x, hx⟩ : ∃ x, sk σ0 e = some x := by
      cases hx : sk σ0 e with
      | none => have := nd_gone hx; have := hc.1; omega
      | some x => exact ⟨x, rfl⟩
    rw [nd_key hx] at hc ⊢
    have xl : x.key.length = 32 := (G.fit.all _ _ hx).key
    have := (common_spec key x.key (by omega) (Ne.symm hc.2)).1
    omega
  · omega
theorem PutMid.made (G : Good σ0) (hk : key.length = 32) (value : List UInt8) (v : Value) (hv : value.length ≤ 1024) {root : Int} (ht : Rep (sk σ0) root 0 t) {l : List Int} {e : Int} (ho : On (sk σ0) key root 0 l e)
    (hroom : Store.live σ0 + putCost σ0 key l e ≤ σ0.room) (htot : Store.total σ0 + 600 < 1073741824) :
    PutMid σ0 (madeS σ0 key value v l e).2 key (madeS σ0 key value v l e).1 0 (ins key value 0 t) (putCost σ0 key l e) := by
  have hz := G.fit.zero
  have hc := putCost_le G hk ho
  have hl := ho.len G.fit (by omega)
  have hpre : ∀ x, sk σ0 root = some x → Pre x.key key 0 := fun _ _ _ h => absurd h (Nat.not_lt_zero _)
  have hpe := ho.pre G.fit hpre
  obtain ⟨te, hte⟩ := ho.rep_end hz ht
  rw [Nat.zero_add] at hte hpe
  unfold putCost at hroom hc ⊢
  have hm := PutMid.ended G hk value v hv (d := l.length) (by omega) hte ho.end_ hpe (by omega) (by omega)
  exact PutMid.up G hk value ho ht (by rw [Nat.zero_add]; exact hte) hpre (by rw [Nat.zero_add]; exact hm) (by omega) (by omega)
theorem PutMid.dropped (G : Good σ0) (h : PutMid σ0 σ key now 0 t n) {root : Int} (hh : root = 0 ∨ 1 ≤ held σ0 root) :
    PutOk σ0 (if root ≠ 0 then (dropS σ root).2.2 else σ) root now t n := by
  have hz := G.fit.zero
  have there : ∀ k, 1 ≤ held σ0 k → ∃ x, sk σ0 k = some x := fun k hk => by
    obtain ⟨x, hx, _⟩ := held_there hk
    exact ⟨_, sk_some hx⟩
  have hk0 : ∀ k, 1 ≤ held σ0 k → sk σ k = sk σ0 k ∧ held σ k = held σ0 k := fun k hk => by
    obtain ⟨x, hx⟩ := there k hk
    obtain ⟨p, q⟩ := h.old k x hx
    exact ⟨p.trans hx.symm, q⟩
  by_cases h0 : root = 0
  · rw [if_neg (by simpa using h0)]
    refine ⟨h.good, h.rep, h.ne, h.one, fun k hk => (h.only k hk).imp id (fun h1 => ⟨h1, fun e => ?_⟩), h.fresh, fun k _ hk => hk0 k hk, fun hs => ?_, Nat.le_of_eq h.live, h.total, h.room, fun k d t _ _ hr => hr.grow (fun k x hx => (h.old k x hx).1)⟩
    · obtain ⟨x, hx⟩ := there k h1
      rw [e, h0, hz] at hx
      cases hx
    · exfalso
      obtain ⟨x, hx⟩ := there root (by omega)
      rw [h0, hz] at hx
      cases hx
  · rw [if_pos h0]
    have hr := hh.resolve_left h0
    obtain ⟨p, q⟩ := hk0 root hr
    have hnr : now ≠ root := fun e => by
      obtain ⟨x, hx⟩ := there root hr
      rw [← e, h.fresh] at hx
      cases hx
    obtain ⟨g0, g1, g2, g3, g4, g5, g6, g7⟩ := dropS_spec h.good.sound (h := root) (by omega)
    obtain ⟨n1, n2⟩ := g3 now hnr (by rw [h.one]; omega)
    have hdh := dropS_held h.good.sound (h := root) (by omega)
    refine ⟨h.good.drop root, ?_, h.ne, by rw [n2, h.one], fun k hk => ?_, h.fresh, fun k hk hk1 => ?_, fun hs => ?_, ?_, ?_, by rw [g7, h.room], fun k d t hk hk1 hrk => ?_⟩
    · refine h.rep.shrink g2 g1.closed (.inr ?_) h.good.fit.zero
      obtain ⟨y, hy, _⟩ := h.there
      exact ⟨y, by rw [n1, hy]⟩
    · rcases hdh k with e | e
      · omega
      · rw [e] at hk
        by_cases hkr : k = root
        · rw [if_pos hkr, q] at hk
          exact .inr ⟨by rw [hkr]; omega, fun _ => by rw [hkr]; omega⟩
        · rw [if_neg hkr] at hk
          exact (h.only k hk).imp id (fun h1 => ⟨h1, fun e => absurd e hkr⟩)
    · obtain ⟨a, b⟩ := hk0 k hk1
      obtain ⟨a', b'⟩ := g3 k hk (by rw [b]; exact hk1)
      exact ⟨a'.trans a, b'.trans b⟩
    · obtain ⟨a', b'⟩ := g4 (by rw [q]; exact hs)
      exact ⟨a'.trans p, by rw [b', q]⟩
    · have := h.live; omega
    · have := h.total; omega
    · have hk2 := (hk0 k hk1).2
      obtain ⟨a', _⟩ := g3 k hk (by rw [hk2]; exact hk1)
      obtain ⟨x, hx⟩ := there k hk1
      refine (hrk.grow (fun k x hx => (h.old k x hx).1)).shrink g2 g1.closed (.inr ⟨x, ?_⟩) h.good.fit.zero
      rw [a', (h.old k x hx).1]
theorem put_spec (G : Good σ0) (hk : key.length = 32) (value : List UInt8) (v : Value) (hv : value.length ≤ 1024) {root : Int} (ht : Rep (sk σ0) root 0 t) (hh : root = 0 ∨ 1 ≤ held σ0 root) {l : List Int} {e : Int} (ho : On (sk σ0) key root 0 l e)
    (hroom : Store.live σ0 + putCost σ0 key l e ≤ σ0.room) (htot : Store.total σ0 + 600 < 1073741824) :
    PutOk σ0 (putS σ0 root key value v l e).2 root (putS σ0 root key value v l e).1 (ins key value 0 t) (putCost σ0 key l e) :=
  (PutMid.made G hk value v hv ht ho hroom htot).dropped G hh
/-- A key that is there with the value. -/
theorem On.ins_same {f : View} (hz : f 0 = none) {h : Int} {l : List Int} {e : Int} (ho : On f key h d l e) : ∀ {t : Tr}, Rep f h d t → ∀ {x : Nd}, f e = some x → x.kind = 1 → x.key = key → ins key x.value d t = t := by
  induction ho with
  | stop _ =>
    intro t ht x hx h1 hk
    cases ht with
    | nil => rw [hz] at hx; cases hx
    | leaf hn _ => rw [hx] at hn; cases hn; unfold ins; rw [if_pos hk, hk]
    | node hn h2 _ _ _ => rw [hx] at hn; cases hn; omega
  | step hn h2 hd hr ih =>
    intro t ht x hx h1 hk
    cases ht with
    | nil => rw [hz] at hn; cases hn
    | leaf hn' hk' => rw [hn] at hn'; cases hn'; omega
    | node hn' _ _ hl hr' =>
      rw [hn] at hn'
      cases hn'
      unfold ins
      split
      · rename_i hb
        rw [if_pos hb] at ih hr
        rw [ih hl hx h1 hk]
      · rename_i hb
        rw [if_neg hb] at ih hr
        rw [ih hr' hx h1 hk]
end
end Go.Proofs.YtooijgcildbnlaaGreat.Store

/- Entries and their tree: the tree of a map; a write into it. -/
namespace Go.Proofs.YtooijgcildbnlaaGreat.Store
open Go Go.RowKit Go.Proofs.YtooijgcildbnlaaGreat Go.Proofs.YtooijgcildbnlaaGreat.ShaW Go.Proofs.YtooijgcildbnlaaGreat.Path
set_option linter.unusedVariables false

abbrev Ents := List (List UInt8 × List UInt8)
def sideE (b d : Nat) (L : Ents) : Ents := L.filter (fun p => kbit p.1 d == b)
/-- The tree of entries whose keys begin alike with all but the last m bits. -/
def tree : Nat → Ents → Tr
  | _, [] => .nil
  | _, [p] => .leaf p.1 p.2
  | 0, _ :: _ :: _ => .nil
  | m + 1, p :: q :: R => .node (tree m (sideE 0 (255 - m) (p :: q :: R))) (tree m (sideE 1 (255 - m) (p :: q :: R)))
def without (L : Ents) (k : List UInt8) : Ents := L.filter (fun p => !(p.1 == k))
def upd (L : Ents) (k v : List UInt8) : Ents := (k, v) :: without L k
def keysOf (L : Ents) : List (List UInt8) := L.map (·.1)
theorem tree_nil (m : Nat) : tree m [] = .nil := by cases m <;> rfl
theorem tree_one (m : Nat) (p : List UInt8 × List UInt8) : tree m [p] = .leaf p.1 p.2 := by cases m <;> rfl
theorem tree_two {m : Nat} {L : Ents} (h : 2 ≤ L.length) : tree (m + 1) L = .node (tree m (sideE 0 (255 - m) L)) (tree m (sideE 1 (255 - m) L)) := by
  match L, h with
  | p :: q :: R, _ => rfl
theorem tree_perm : ∀ (m : Nat) {L L' : Ents}, L.Perm L' → tree m L = tree m L' := by
  intro m
  induction m with
  | zero =>
    intro L L' h
    match L, L', h, h.length_eq with
    | [], [], _, _ => rfl
    | [p], [q], h, _ => rw [List.perm_singleton.1 h]
    | _ :: _ :: _, _ :: _ :: _, _, _ => rfl
  | succ m ih =>
    intro L L' h
    match L, L', h, h.length_eq with
    | [], [], _, _ => rfl
    | [p], [q], h, _ => rw [List.perm_singleton.1 h]
    | p :: q :: R, p' :: q' :: R', h, _ =>
      rw [tree_two (by simp), tree_two (by simp)]
      have h0 : (sideE 0 (255 - m) (p :: q :: R)).Perm (sideE 0 (255 - m) (p' :: q' :: R')) := h.filter _
      have h1 : (sideE 1 (255 - m) (p :: q :: R)).Perm (sideE 1 (255 - m) (p' :: q' :: R')) := h.filter _
      rw [ih h0, ih h1]
theorem pre_all {a b : List UInt8} (ha : a.length = 32) (hb : b.length = 32) (h : Pre a b 256) : a = b := by
  by_cases e : a = b
  · exact e
  · obtain ⟨h1, h2, h3⟩ := common_spec a b (by omega) e
    exact absurd (h _ (by omega)) h3

/-- Entries whose keys are keys, no key twice, all beginning with k's first d bits. -/
structure Ents.Ok (L : Ents) (k : List UInt8) (d : Nat) : Prop where
  nodup : (keysOf L).Nodup
  len : ∀ p ∈ L, p.1.length = 32
  pre : ∀ p ∈ L, Pre p.1 k d
variable {L : Ents} {k v : List UInt8} {d m : Nat}
theorem keys_filter (L : Ents) (f : List UInt8 × List UInt8 → Bool) : (keysOf (L.filter f)).Sublist (keysOf L) := (List.filter_sublist).map _
theorem Ents.Ok.filter (h : L.Ok k d) (f : List UInt8 × List UInt8 → Bool) : Ents.Ok (L.filter f) k d := ⟨h.nodup.sublist (keys_filter L f), fun p hp => h.len p ((List.mem_filter.1 hp).1), fun p hp => h.pre p ((List.mem_filter.1 hp).1)⟩
theorem Ents.Ok.side (h : L.Ok k d) : Ents.Ok (sideE (kbit k d) d L) k (d + 1) := by
  refine ⟨(h.filter _).nodup, (h.filter _).len, fun p hp => (h.pre p ((List.mem_filter.1 hp).1)).next ?_⟩
  have := (List.mem_filter.1 hp).2
  simpa using this
theorem Ents.Ok.few (h : L.Ok k 256) : L.length ≤ 1 := by
  match L, h with
  | [], _ => simp
  | [p], _ => simp
  | p :: q :: R, h =>
    exfalso
    have e := pre_all (h.len p (by simp)) (h.len q (by simp)) ((h.pre p (by simp)).trans (h.pre q (by simp)).symm)
    have := h.nodup
    simp [keysOf, e] at this
theorem chainT_out (k : List UInt8) : ∀ (n lo : Nat) (t : Tr), chainT k lo (n + 1) t = mk k lo (chainT k (lo + 1) n t) .nil
  | 0, lo, t => rfl
  | n + 1, lo, t => by
    show chainT k lo (n + 1) (mk k (lo + (n + 1)) t .nil) = _
    rw [chainT_out k n lo]
    show _ = mk k lo (chainT k (lo + 1) n (mk k (lo + 1 + n) t .nil)) .nil
    rw [show lo + (n + 1) = lo + 1 + n by omega]
theorem tree_pair : ∀ (m : Nat), m ≤ 256 → ∀ {k k' : List UInt8} (v v' : List UInt8), k ≠ k' → k.length = 32 → k'.length = 32 → Pre k k' (256 - m) →
    tree m [(k, v), (k', v')] = chainT k (256 - m) (common k k' - (256 - m)) (mk k (common k k') (.leaf k v) (.leaf k' v')) := by
  intro m
  induction m with
  | zero =>
    intro _ k k' v v' hne hk hk' hp
    exact absurd (pre_all hk hk' hp) hne
  | succ m ih =>
    intro hm k k' v v' hne hk hk' hp
    obtain ⟨c1, c2, c3⟩ := common_spec k k' (by omega) hne
    have hd := le_common hk hk' (by omega) hp
    rw [tree_two (by simp)]
    rw [show 256 - (m + 1) = 255 - m by omega] at hp hd ⊢
    obtain ⟨dd, hdd⟩ : ∃ dd, dd = 255 - m := ⟨_, rfl⟩
    have hdm : 256 - m = dd + 1 := by omega
    rw [hdm] at ih
    rw [← hdd] at hp hd ⊢
    by_cases hb : kbit k dd = kbit k' dd
    · have hp' := hp.next hb
      have hd' := le_common hk hk' (by omega) hp'
      have := ih (by omega) v v' hne hk hk' hp'
      obtain ⟨j, hj⟩ : ∃ j, common k k' - dd = j + 1 := ⟨common k k' - (dd + 1), by omega⟩
      rw [hj, chainT_out]
      rw [show common k k' - (dd + 1) = j by omega] at this
      rw [← this]
      unfold mk sideE
      rcases kbit_cases k dd with h0 | h0
      · rw [if_pos h0]
        simp [← hb, h0, tree_nil]
      · rw [if_neg (by omega)]
        simp [← hb, h0, tree_nil]
    · have hc : common k k' = dd := by
        rcases Nat.lt_or_ge dd (common k k') with h | h
        · exact absurd (c2 dd h) hb
        · omega
      rw [hc, Nat.sub_self]
      unfold chainT mk sideE
      rcases kbit_cases k dd with h0 | h0 <;> rcases kbit_cases k' dd with h1 | h1
      · exact absurd (h0.trans h1.symm) hb
      · simp [h0, h1, tree_one]
      · simp [h0, h1, tree_one]
      · exact absurd (h0.trans h1.symm) hb
theorem without_none (h : k ∉ keysOf L) : without L k = L := by
  unfold without
  rw [List.filter_eq_self]
  intro p hp
  have : p.1 ≠ k := fun e => h (by rw [← e]; exact List.mem_map_of_mem hp)
  simpa using this
theorem without_length (h : (keysOf L).Nodup) : L.length ≤ (without L k).length + 1 := by
  induction L with
  | nil => simp
  | cons p L ih =>
    have h2 : (keysOf L).Nodup := (List.nodup_cons.1 h).2
    unfold without at ih ⊢
    rw [List.filter_cons]
    by_cases e : p.1 = k
    · have hn : k ∉ keysOf L := by rw [← e]; exact (List.nodup_cons.1 h).1
      have := without_none hn
      unfold without at this
      simp [e, this]
    · simp only [show (!(p.1 == k)) = true by simpa using e, if_true, List.length_cons]
      have := ih h2
      omega
theorem filter_swap (L : Ents) (f g : List UInt8 × List UInt8 → Bool) : (L.filter f).filter g = (L.filter g).filter f := by
  rw [List.filter_filter, List.filter_filter]
  exact List.filter_congr fun p _ => Bool.and_comm _ _
theorem side_same (L : Ents) (k v : List UInt8) (d : Nat) : sideE (kbit k d) d (upd L k v) = upd (sideE (kbit k d) d L) k v := by
  unfold upd sideE without
  rw [List.filter_cons, if_pos (by simp), filter_swap]
theorem side_other (L : Ents) (k v : List UInt8) {d b : Nat} (hb : kbit k d ≠ b) : sideE b d (upd L k v) = sideE b d L := by
  unfold upd sideE without
  rw [List.filter_cons, if_neg (by simpa using hb), List.filter_filter]
  refine List.filter_congr fun p _ => ?_
  by_cases e : p.1 = k
  · simp [e, hb]
  · simp [e]
/-- A write into the tree of a map. -/
theorem ins_tree : ∀ (m : Nat), m ≤ 256 → ∀ {L : Ents}, L.Ok k (256 - m) → k.length = 32 → ins k v (256 - m) (tree m L) = tree m (upd L k v) := by
  intro m
  induction m with
  | zero =>
    intro _ L h hk
    match L, h, h.few with
    | [], _, _ => rfl
    | [p], h, _ =>
      have e := pre_all (h.len p (by simp)) hk (h.pre p (by simp))
      show ins k v _ (.leaf p.1 p.2) = _
      unfold ins upd without
      simp [e, tree_one]
  | succ m ih =>
    intro hm L h hk
    by_cases h2 : 2 ≤ L.length
    · have hu : 2 ≤ (upd L k v).length := by
        have := without_length (k := k) h.nodup
        unfold upd
        rw [List.length_cons]
        omega
      rw [tree_two h2, tree_two hu]
      rw [show 256 - (m + 1) = 255 - m by omega] at h ⊢
      have hdm : 256 - m = 255 - m + 1 := by omega
      rw [hdm] at ih
      have hs := ih (by omega) h.side hk
      unfold ins
      rcases kbit_cases k (255 - m) with hb | hb
      · rw [if_pos hb]
        rw [hb] at hs
        have e := side_same L k v (255 - m)
        rw [hb] at e
        rw [hs, ← e, side_other L k v (b := 1) (by omega)]
      · rw [if_neg (by omega)]
        rw [hb] at hs
        have e := side_same L k v (255 - m)
        rw [hb] at e
        rw [hs, ← e, side_other L k v (b := 0) (by omega)]
    · match L, h, h2 with
      | [], _, _ => rfl
      | [p], h, _ =>
        rw [tree_one]
        unfold ins upd without
        by_cases e : p.1 = k
        · rw [if_pos e]
          simp [e, tree_one]
        · rw [if_neg e]
          have := tree_pair (m + 1) hm v p.2 (Ne.symm e) hk (h.len p (by simp)) (h.pre p (by simp)).symm
          rw [← this]
          simp [e]
      | p :: q :: R, _, h2 => exact absurd (by simp) h2
theorem Ents.Ok.any (h : (keysOf L).Nodup) (hl : ∀ p ∈ L, p.1.length = 32) (k : List UInt8) : L.Ok k 0 := ⟨h, hl, fun _ _ _ h => absurd h (Nat.not_lt_zero _)⟩
/-- The end of the way of a key that is there. -/
theorem On.find_tree {f : View} (hz : f 0 = none) : ∀ (m : Nat), m ≤ 256 → ∀ {L : Ents} {h e : Int} {l : List Int}, L.Ok k (256 - m) → (k, v) ∈ L → Rep f h (256 - m) (tree m L) → On f k h (256 - m) l e →
    ∃ x, f e = some x ∧ x.kind = 1 ∧ x.key = k ∧ x.value = v := by
  have leaf : ∀ {h e : Int} {l : List Int} {d : Nat}, Rep f h d (.leaf k v) → On f k h d l e → ∃ x, f e = some x ∧ x.kind = 1 ∧ x.key = k ∧ x.value = v := by
    intro h e l d hr ho
    generalize ht : Tr.leaf k v = t at hr
    cases hr with
    | nil => cases ht
    | node _ _ _ _ _ => cases ht
    | leaf hn hk =>
      injection ht with e1 e2
      cases ho with
      | stop _ => exact ⟨_, hn, hk, e1.symm, e2.symm⟩
      | step hn' hk' _ _ => rw [hn] at hn'; cases hn'; omega
  intro m
  induction m with
  | zero =>
    intro _ L h e l hL hin hr ho
    match L, hL, hL.few, hin, hr with
    | [], _, _, hin, _ => cases hin
    | [p], _, _, hin, hr =>
      have : p = (k, v) := (List.mem_singleton.1 hin).symm
      subst this
      exact leaf hr ho
  | succ m ih =>
    intro hm L h e l hL hin hr ho
    by_cases h2 : 2 ≤ L.length
    · rw [tree_two h2] at hr
      rw [show 256 - (m + 1) = 255 - m by omega] at hL hr ho
      have hdm : 256 - m = 255 - m + 1 := by omega
      rw [hdm] at ih
      have hin' : (k, v) ∈ sideE (kbit k (255 - m)) (255 - m) L := List.mem_filter.2 ⟨hin, by simp⟩
      cases hr with
      | node hn hk2 hd hl hrr =>
        cases ho with
        | stop h0 =>
          rcases h0 with rfl | ⟨x, hx, hx2⟩
          · rw [hz] at hn; cases hn
          · rw [hn] at hx; cases hx; exact absurd hk2 hx2
        | step hn' _ _ hon =>
          rw [hn] at hn'
          cases hn'
          refine ih (by omega) hL.side hin' ?_ hon
          rcases kbit_cases k (255 - m) with hb | hb
          · rw [hb, if_pos rfl]; exact hl
          · rw [hb, if_neg (by decide)]; exact hrr
    · match L, hL, h2, hin, hr with
      | [], _, _, hin, _ => cases hin
      | [p], _, _, hin, hr =>
        have : p = (k, v) := (List.mem_singleton.1 hin).symm
        subst this
        rw [tree_one] at hr
        exact leaf hr ho
      | p :: q :: R, _, h2, _, _ => exact absurd (by simp) h2
/-- A new key. -/
theorem upd_new (h : k ∉ keysOf L) : (upd L k v).Perm (L ++ [(k, v)]) := by
  unfold upd
  rw [without_none h]
  exact (List.perm_append_singleton (k, v) L).symm
end Go.Proofs.YtooijgcildbnlaaGreat.Store

/- How many nodes a store has: just those of its root's tree. -/
namespace Go.Proofs.YtooijgcildbnlaaGreat.Store
open Go Go.RowKit Go.Proofs.YtooijgcildbnlaaGreat Go.Proofs.YtooijgcildbnlaaGreat.ShaW Go.Proofs.YtooijgcildbnlaaGreat.Path
set_option linter.unusedVariables false

def Tr.nodes : Tr → Nat
  | .nil => 0
  | .leaf _ _ => 1
  | .node l r => l.nodes + r.nodes + 1
def Tr.leaves : Tr → Nat
  | .nil => 0
  | .leaf _ _ => 1
  | .node l r => l.leaves + r.leaves
/-- What a handle reaches. -/
def reach (f : View) : Nat → Int → List Int
  | 0, _ => []
  | m + 1, h => match f h with
    | none => []
    | some n => h :: (if n.kind = 2 then reach f m n.left ++ reach f m n.right else [])
variable {f : View} {h : Int} {d m : Nat} {t : Tr}
theorem reach_none (hn : f h = none) : reach f m h = [] := by
  cases m with
  | zero => rfl
  | succ m => unfold reach; rw [hn]
theorem reach_leaf {n : Nd} (hn : f h = some n) (hk : n.kind ≠ 2) : reach f (m + 1) h = [h] := by unfold reach; rw [hn]; simp [hk]
theorem reach_node {n : Nd} (hn : f h = some n) (hk : n.kind = 2) : reach f (m + 1) h = h :: (reach f m n.left ++ reach f m n.right) := by
  conv => lhs; unfold reach
  rw [hn]
  simp [hk]
theorem reach_nodes (hf : Fit f) (hr : Rep f h d t) : ∀ {m : Nat}, d + m = 257 → d ≤ 256 → (reach f m h).length = t.nodes := by
  induction hr with
  | nil => intro m _ _; rw [reach_none hf.zero]; rfl
  | leaf hn hk =>
    intro m hm hd
    obtain ⟨m, rfl⟩ : ∃ j, m = j + 1 := ⟨m - 1, by omega⟩
    rw [reach_leaf hn (by omega)]; rfl
  | node hn hk hde hl hr ihl ihr =>
    intro m hm hd
    have := (hf.inner hn hk).d1
    obtain ⟨m, rfl⟩ : ∃ j, m = j + 1 := ⟨m - 1, by omega⟩
    rw [reach_node hn hk, List.length_cons, List.length_append, ihl (by omega) (by omega), ihr (by omega) (by omega)]
    rfl
theorem reach_there : ∀ (m : Nat) (h k : Int), k ∈ reach f m h → ∃ n, f k = some n := by
  intro m
  induction m with
  | zero => intro h k hk; cases hk
  | succ m ih =>
    intro h k hk
    cases hn : f h with
    | none => rw [reach_none hn] at hk; cases hk
    | some n =>
      by_cases h2 : n.kind = 2
      · rw [reach_node hn h2, List.mem_cons, List.mem_append] at hk
        rcases hk with rfl | hk | hk
        · exact ⟨n, hn⟩
        · exact ih _ _ hk
        · exact ih _ _ hk
      · rw [reach_leaf hn h2, List.mem_singleton] at hk
        exact ⟨n, hk ▸ hn⟩
/-- Who is reached: sides too. -/
theorem reach_sides (hf : Fit f) (hr : Rep f h d t) : ∀ {m : Nat}, d + m = 257 → d ≤ 256 → ∀ {k : Int} {n : Nd}, k ∈ reach f m h → f k = some n → n.kind = 2 → (n.left ≠ 0 → n.left ∈ reach f m h) ∧ (n.right ≠ 0 → n.right ∈ reach f m h) := by
  have head : ∀ (m : Nat) (c : Int) (y : Nd), f c = some y → c ∈ reach f (m + 1) c := fun m c y hy => by
    by_cases h2 : y.kind = 2
    · rw [reach_node hy h2]; simp
    · rw [reach_leaf hy h2]; simp
  induction hr with
  | nil => intro m _ _ k n hk; rw [reach_none hf.zero] at hk; cases hk
  | leaf hn h1 =>
    intro m hm hd k n hk hkn h2
    obtain ⟨m, rfl⟩ : ∃ j, m = j + 1 := ⟨m - 1, by omega⟩
    rw [reach_leaf hn (by omega), List.mem_singleton] at hk
    rw [hk, hn] at hkn
    cases hkn
    omega
  | @node h d x l r hn h2 hde hl hr ihl ihr =>
    intro m hm hd k n hk hkn hk2
    have hi := hf.inner hn h2
    have := hi.d1
    obtain ⟨m, rfl⟩ : ∃ j, m = j + 2 := ⟨m - 2, by omega⟩
    rw [reach_node hn h2] at hk ⊢
    simp only [List.mem_cons, List.mem_append] at hk ⊢
    rcases hk with e | hk | hk
    · subst e
      rw [hn] at hkn
      cases hkn
      refine ⟨fun h0 => ?_, fun h0 => ?_⟩
      · obtain ⟨y, hy⟩ := hi.left.resolve_left h0
        exact .inr (.inl (head _ _ y hy))
      · obtain ⟨y, hy⟩ := hi.right.resolve_left h0
        exact .inr (.inr (head _ _ y hy))
    · obtain ⟨a, b⟩ := ihl (by omega) (by omega) hk hkn hk2
      exact ⟨fun h0 => .inr (.inl (a h0)), fun h0 => .inr (.inl (b h0))⟩
    · obtain ⟨a, b⟩ := ihr (by omega) (by omega) hk hkn hk2
      exact ⟨fun h0 => .inr (.inr (a h0)), fun h0 => .inr (.inr (b h0))⟩
/-- What is reached lies below, and begins with the same bits. -/
theorem reach_below (hf : Fit f) (hr : Rep f h d t) : ∀ {m : Nat}, d + m = 257 → d ≤ 256 → ∀ {x : Nd}, f h = some x → ∀ {k : Int} {y : Nd}, k ∈ reach f m h → f k = some y → Pre y.key x.key d ∧ (y.kind = 2 → (d : Int) ≤ y.depth) := by
  induction hr with
  | nil => intro m _ _ x hx; rw [hf.zero] at hx; cases hx
  | leaf hn h1 =>
    intro m hm hd x hx k y hk hy
    obtain ⟨m, rfl⟩ : ∃ j, m = j + 1 := ⟨m - 1, by omega⟩
    rw [reach_leaf hn (by omega), List.mem_singleton] at hk
    rw [hk, hn] at hy
    cases hy
    rw [hn] at hx
    cases hx
    exact ⟨fun _ _ => rfl, fun h => by omega⟩
  | @node h d z l r hn h2 hde hl hr ihl ihr =>
    intro m hm hd x hx k y hk hy
    rw [hn] at hx
    cases hx
    have hi := hf.inner hn h2
    have := hi.d1
    obtain ⟨m, rfl⟩ : ∃ j, m = j + 1 := ⟨m - 1, by omega⟩
    obtain ⟨p1, p2⟩ := hf.pre hn h2 hde (k := z.key) (fun _ _ => rfl)
    rw [reach_node hn h2, List.mem_cons, List.mem_append] at hk
    rcases hk with e | hk | hk
    · subst e
      rw [hn] at hy
      cases hy
      exact ⟨fun _ _ => rfl, fun _ => by omega⟩
    · cases hc : f z.left with
      | none => rw [reach_none hc] at hk; cases hk
      | some c =>
        obtain ⟨a, b⟩ := ihl (by omega) (by omega) hc hk hy
        exact ⟨(a.less (by omega)).trans (p1 c hc), fun h => by have := b h; omega⟩
    · cases hc : f z.right with
      | none => rw [reach_none hc] at hk; cases hk
      | some c =>
        obtain ⟨a, b⟩ := ihr (by omega) (by omega) hc hk hy
        exact ⟨(a.less (by omega)).trans (p2 c hc), fun h => by have := b h; omega⟩
theorem reach_nodup (hf : Fit f) (hr : Rep f h d t) : ∀ {m : Nat}, d + m = 257 → d ≤ 256 → (reach f m h).Nodup := by
  induction hr with
  | nil => intro m _ _; rw [reach_none hf.zero]; exact List.nodup_nil
  | leaf hn h1 =>
    intro m hm hd
    obtain ⟨m, rfl⟩ : ∃ j, m = j + 1 := ⟨m - 1, by omega⟩
    rw [reach_leaf hn (by omega)]
    simp
  | @node h d z l r hn h2 hde hl hr ihl ihr =>
    intro m hm hd
    have hi := hf.inner hn h2
    have hd1 := hi.d1
    obtain ⟨m, rfl⟩ : ∃ j, m = j + 1 := ⟨m - 1, by omega⟩
    obtain ⟨q1, q2⟩ := hf.kids hn h2
    have inL : ∀ k, k ∈ reach f m z.left → ∃ y, f k = some y ∧ kbit y.key d = 0 ∧ k ≠ h := fun k hk => by
      obtain ⟨y, hy⟩ := reach_there _ _ _ hk
      cases hc : f z.left with
      | none => rw [reach_none hc] at hk; cases hk
      | some c =>
        obtain ⟨a, b⟩ := reach_below hf hl (by omega) (by omega) hc hk hy
        have hb := (q1 c hc).2
        rw [hde] at hb
        refine ⟨y, hy, ?_, fun e => ?_⟩
        · rw [a d (by omega)]; exact bit_of (by omega) hb
        · subst e
          rw [hn] at hy
          cases hy
          have := b h2
          omega
    have inR : ∀ k, k ∈ reach f m z.right → ∃ y, f k = some y ∧ kbit y.key d = 1 ∧ k ≠ h := fun k hk => by
      obtain ⟨y, hy⟩ := reach_there _ _ _ hk
      cases hc : f z.right with
      | none => rw [reach_none hc] at hk; cases hk
      | some c =>
        obtain ⟨a, b⟩ := reach_below hf hr (by omega) (by omega) hc hk hy
        have hb := (q2 c hc).2
        rw [hde] at hb
        refine ⟨y, hy, ?_, fun e => ?_⟩
        · rw [a d (by omega)]; exact bit_of (by omega) hb
        · subst e
          rw [hn] at hy
          cases hy
          have := b h2
          omega
    rw [reach_node hn h2, List.nodup_cons, List.nodup_append]
    refine ⟨fun hm => ?_, ihl (by omega) (by omega), ihr (by omega) (by omega), fun a ha b hb e => ?_⟩
    · rcases List.mem_append.1 hm with hm | hm
      · obtain ⟨_, _, _, hne⟩ := inL h hm; exact hne rfl
      · obtain ⟨_, _, _, hne⟩ := inR h hm; exact hne rfl
    · subst e
      obtain ⟨y, hy, h0, _⟩ := inL a ha
      obtain ⟨y', hy', h1, _⟩ := inR a hb
      rw [hy] at hy'
      cases hy'
      omega
theorem occR_nodup {σ : SlabSt Nd} : ∀ k : Nat, (σ.occ k).Nodup
  | 0 => List.nodup_nil
  | k + 1 => by
    cases hx : σ.get? ((k : Int) + 1) with
    | none => rw [SlabSt.occ_none hx]; exact occR_nodup k
    | some x =>
      rw [SlabSt.occ_some hx, List.nodup_append]
      refine ⟨occR_nodup k, by simp, fun a ha b hb e => ?_⟩
      rw [List.mem_singleton] at hb
      have := ((mem_occ _ _).1 ha).2.1
      omega
theorem handles_nodup {σ : SlabSt Nd} : (handles σ).Nodup := occR_nodup _
/-- What is there is held, or a side of what is there. -/
theorem sound_parent {σ : SlabSt Nd} (hs : Sound σ []) {h : Int} {x : Nd × Nat} (hx : σ.get? h = some x) : 1 ≤ held σ h ∨ ∃ k y, σ.get? k = some y ∧ (y.1.left = h ∨ y.1.right = h) ∧ rank y.1 < rank x.1 := by
  have hc := hs.counts h x hx
  have hh := hs.held h x hx
  obtain ⟨m, rfl, hm, h0, hlt⟩ := SlabSt.get?_some hx
  rw [held_some hx]
  by_cases h1 : 1 ≤ x.1.held
  · exact .inl h1
  · right
    obtain ⟨k, y, hy, hlr⟩ := sides_some (σ := σ) (h := (m : Int) + 1) (by simp only [List.count_nil] at hc; omega)
    refine ⟨k, y, hy, hlr, ?_⟩
    rcases hlr with e | e
    · obtain ⟨z, hz, hr⟩ := hs.left k y hy (by omega)
      rw [e, hx] at hz
      cases hz
      exact hr
    · obtain ⟨z, hz, hr⟩ := hs.right k y hy (by omega)
      rw [e, hx] at hz
      cases hz
      exact hr
theorem rank_bounds {σ : SlabSt Nd} (G : Good σ) {h : Int} {x : Nd × Nat} (hx : σ.get? h = some x) : 0 ≤ rank x.1 ∧ rank x.1 ≤ 256 := by
  unfold rank
  by_cases h2 : x.1.kind = 2
  · have := G.fit.inner (sk_some hx) h2
    have h3 : 0 ≤ x.1.depth := this.d0
    have h4 : x.1.depth ≤ 255 := this.d1
    rw [if_pos h2]
    omega
  · rw [if_neg h2]; omega
theorem side_kind {σ : SlabSt Nd} (G : Good σ) {h : Int} {x : Nd × Nat} (hx : σ.get? h = some x) {c : Int} (hc : x.1.left = c ∨ x.1.right = c) (h0 : c ≠ 0) : x.1.kind = 2 := by
  by_cases h2 : x.1.kind = 2
  · exact h2
  · obtain ⟨_, hl⟩ := G.fit.leaf (sk_some hx) h2
    have e1 : x.1.left = 0 := hl.left
    have e2 : x.1.right = 0 := hl.right
    omega
/-- A store of which one root alone is held has just the root's nodes. -/
theorem live_nodes {σ : SlabSt Nd} (G : Good σ) {root : Int} (hr : Rep (sk σ) root 0 t) (hh : ∀ k, 1 ≤ held σ k → k = root) : live σ = t.nodes := by
  rw [← reach_nodes G.fit hr (m := 257) rfl (by omega), ← handles_length, ← List.length_map (f := fun n : Nat => (n : Int))]
  have hall : ∀ (r : Nat) (k : Int) (x : Nd × Nat), σ.get? k = some x → rank x.1 < r → k ∈ reach (sk σ) 257 root := by
    intro r
    induction r with
    | zero => intro k x hx hr; have := (rank_bounds G hx).1; omega
    | succ r ih =>
      intro k x hx hrk
      rcases sound_parent G.sound hx with h1 | ⟨p, y, hy, hlr, hrank⟩
      · rw [hh k h1]
        rw [hh k h1] at hx
        by_cases h2 : x.1.kind = 2
        · rw [reach_node (m := 256) (sk_some hx) h2]; simp
        · rw [reach_leaf (m := 256) (sk_some hx) h2]; simp
      · have hp := ih p y hy (by omega)
        have h0 := get_ne hx
        have h2 := side_kind G hy hlr h0
        obtain ⟨a, b⟩ := reach_sides G.fit hr (m := 257) rfl (by omega) hp (sk_some hy) h2
        rcases hlr with e | e
        · have := a (by show y.1.left ≠ 0; rw [e]; exact h0)
          rw [← e]; exact this
        · have := b (by show y.1.right ≠ 0; rw [e]; exact h0)
          rw [← e]; exact this
  refine List.Perm.length_eq ((List.perm_ext_iff_of_nodup ?_ (reach_nodup G.fit hr rfl (by omega))).2 fun k => ?_)
  · exact List.Pairwise.map _ (fun a b h e => h (Int.ofNat_inj.1 e)) handles_nodup
  · constructor
    · intro hk
      obtain ⟨n, hn, rfl⟩ := List.mem_map.1 hk
      obtain ⟨x, hx⟩ := (mem_handles (n : Int)).2 ⟨n, hn, rfl⟩
      exact hall 257 _ x hx (by have := (rank_bounds G hx).2; omega)
    · intro hk
      obtain ⟨n, hn⟩ := reach_there _ _ _ hk
      obtain ⟨x, hx, _⟩ := sk_get hn
      obtain ⟨j, hj, e⟩ := (mem_handles k).1 ⟨x, hx⟩
      exact List.mem_map.2 ⟨j, hj, e.symm⟩
/-- How many entries there are. -/
theorem Rep.size (hf : Fit f) (hr : Rep f h d t) : (ndF f h).size = wrap64 (t.leaves : Nat) := by
  induction hr with
  | nil => unfold ndF; rw [hf.zero]; show (0 : Int) = wrap64 ((0 : Nat) : Int); unfold wrap64; omega
  | leaf hn hk =>
    rw [ndF_some hn, (hf.leaf hn (by omega)).2.size]
    show (1 : Int) = wrap64 ((1 : Nat) : Int)
    unfold wrap64
    omega
  | @node h d n l r hn hk _ _ _ ihl ihr =>
    rw [ndF_some hn, (hf.inner hn hk).size, ihl, ihr]
    have e : ((Tr.node l r).leaves : Int) = (l.leaves : Int) + (r.leaves : Int) := Int.natCast_add _ _
    rw [e]
    generalize (l.leaves : Int) = a
    generalize (r.leaves : Int) = b
    unfold wrap64
    omega
end Go.Proofs.YtooijgcildbnlaaGreat.Store
