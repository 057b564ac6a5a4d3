/- A key is deleted, plainly: up the way. -/
import Derived.Test.YtpeebeebakjpdaaGreatDropY
namespace Go.Proofs.YtpeebeebakjpdaaGreat.Store
open Go Go.RowKit Go.Proofs.YtpeebeebakjpdaaGreat Go.Proofs.YtpeebeebakjpdaaGreat.ShaW Go.Proofs.YtpeebeebakjpdaaGreat.Path
set_option linter.unusedVariables false

section
variable {σ0 σ τ : SlabSt Nd} {key : List UInt8} {now other : Int} {d n : Nat} {t u : Tr}
/-- A part of a key's way. -/
inductive Way (f : View) (k : List UInt8) : Int → Nat → List Int → Int → Prop
  | nil {h : Int} {d : Nat} : Way f k h d [] h
  | step {h : Int} {d : Nat} {n : Nd} {l : List Int} {c : Int} (hn : f h = some n) (hk : n.kind = 2) (hd : n.depth = (d : Nat)) (hr : Way f k (if kbit k d = 0 then n.left else n.right) (d + 1) l c) : Way f k h d (h :: l) c
/-- What lies beside, as the store was. -/
theorem Fit.next {f : View} (hf : Fit f) (hfs : f = sk σ0) {h : Int} {x : Nd} (hn : f h = some x) (h2 : x.kind = 2) (hd : x.depth = (d : Nat)) (hp : Pre x.key key d) {tl tr : Tr} (hl : Rep f x.left (d + 1) tl) (hr : Rep f x.right (d + 1) tr) :
    Next σ0 key d (if kbit key d = 0 then x.right else x.left) (if kbit key d = 0 then tr else tl) := by
  subst hfs
  have hz := hf.zero
  obtain ⟨_, w2⟩ := hf.way hn h2 hd hp
  have hroth : Rep (sk σ0) (if kbit key d = 0 then x.right else x.left) (d + 1) (if kbit key d = 0 then tr else tl) := by split <;> assumption
  by_cases h0 : (if kbit key d = 0 then x.right else x.left) = 0
  · exact .inl ⟨h0, by rw [h0] at hroth; exact hroth.zero hz⟩
  · obtain ⟨y, hy⟩ := hroth.live.resolve_left h0
    obtain ⟨p1, p2⟩ := w2 y hy
    exact .inr ⟨y, hy, hroth, p1, p2⟩
/-- What now stands for, and what lies beside, are not the same. -/
theorem DMid.apart (h : DMid σ0 σ key now (d + 1) t n) (ho : Next σ0 key d other u) : now ≠ other ∨ now = 0 := by
  by_cases h0 : now = 0
  · exact .inr h0
  · left
    intro e
    rcases ho with ⟨e2, _⟩ | ⟨z, z1, _, _, z4⟩
    · exact h0 (e.trans e2)
    · have := (h.old _ _ z1).1
      rw [← e] at this
      exact z4 (h.there z this d (Nat.lt_succ_self _))
theorem beside_old (h : DMid σ0 σ key now (d + 1) t n) (hd : d ≤ 255) {hh : Int} {x : Nd} (hn : sk σ0 hh = some x) : besideS σ key hh d = (if kbit key d = 0 then x.right else x.left) := by
  have hsk := (h.old hh x hn).1
  unfold besideS
  rw [nd_left hsk, nd_right hsk, bit_in (show d < 256 by omega)]
  rcases kbit_cases key d with hb | hb
  · rw [hb]; rfl
  · rw [hb]; rfl
/-- One node more, up the way. -/
theorem DMid.next (G : Good σ0) (hk : key.length = 32) {h : Int} {x : Nd} (hn : sk σ0 h = some x) (h2 : x.kind = 2) (hd : x.depth = (d : Nat)) (hp : Pre x.key key d) {tl tr : Tr} (hl : Rep (sk σ0) x.left (d + 1) tl) (hr : Rep (sk σ0) x.right (d + 1) tr)
    (hm : DMid σ0 σ key now (d + 1) t n) (hroom : Store.live σ0 + n < σ0.room) (htot : Store.total σ0 + 2 * n + 3 < 1073741824)
    (hc : t.isNode = true ∨ (if kbit key d = 0 then tr else tl).isNode = true ∨ (now ≠ 0 ∧ (if kbit key d = 0 then x.right else x.left) ≠ 0)) :
    DMid σ0 (stepS σ key h d now).2 key (stepS σ key h d now).1 d (Store.mk key d t (if kbit key d = 0 then tr else tl)) (n + 1) := by
  have hd1 := (G.fit.inner hn h2).d1
  have hN := G.fit.next (σ0 := σ0) rfl hn h2 hd hp hl hr
  have hb := beside_old hm (by omega) hn
  have hj := hm.join (by omega) hroom htot hk hN (hm.apart hN) hc
  rw [← hb] at hj
  exact hj
theorem DMid.up (G : Good σ0) (hk : key.length = 32) {h c : Int} {l : List Int} (hw : Way (sk σ0) key h d l c) : ∀ {t tc : Tr} {σ : SlabSt Nd} {now : Int} {n : Nat}, Rep (sk σ0) h d t → Rep (sk σ0) c (d + l.length) tc →
    (∀ x, sk σ0 h = some x → Pre x.key key d) → DMid σ0 σ key now (d + l.length) (delT key (d + l.length) tc) n → (delT key (d + l.length) tc).isNode = true → Store.live σ0 + n + l.length ≤ σ0.room → Store.total σ0 + 2 * n + 2 * l.length + 3 < 1073741824 →
    DMid σ0 (upL key d l σ now).2 key (upL key d l σ now).1 d (delT key d t) (n + l.length) ∧ (delT key d t).isNode = true := by
  have hz := G.fit.zero
  induction hw with
  | nil =>
    intro t tc σ now n ht hc _ hm hnd _ _
    rw [ht.det hz hc]
    exact ⟨hm, hnd⟩
  | @step h d x l c hn h2 hd hr ih =>
    intro t tc σ now n ht hc hp hm hnd hroom htot
    have hp' := hp x hn
    obtain ⟨w1, _⟩ := G.fit.way hn h2 hd hp'
    have hlen : ∀ a : Nat, a + (h :: l).length = a + 1 + l.length := fun a => by simp only [List.length_cons]; omega
    cases ht with
    | nil => rw [hz] at hn; cases hn
    | leaf hn' hk' => rw [hn] at hn'; cases hn'; omega
    | @node _ _ x' tl tr hn' _ _ hl hr' =>
      rw [hn] at hn'
      cases hn'
      rw [hlen] at hc hm hnd
      have hrown : Rep (sk σ0) (if kbit key d = 0 then x.left else x.right) (d + 1) (if kbit key d = 0 then tl else tr) := by split <;> assumption
      obtain ⟨hm1, hn1⟩ := ih hrown hc w1 hm hnd (by rw [List.length_cons] at hroom; omega) (by rw [List.length_cons] at htot; omega)
      have hj := DMid.next G hk hn h2 hd hp' hl hr' hm1 (by rw [List.length_cons] at hroom; omega) (by rw [List.length_cons] at htot; omega) (.inl hn1)
      have e1 : Store.mk key d (delT key (d + 1) (if kbit key d = 0 then tl else tr)) (if kbit key d = 0 then tr else tl) = delT key d (.node tl tr) := by
        rw [← fold_node_l key d _ hn1]
        conv => rhs; unfold delT
        by_cases hb : kbit key d = 0
        · rw [if_pos hb, if_pos hb, if_pos hb]
        · rw [if_neg hb, if_neg hb, if_neg hb]
      rw [e1] at hj
      refine ⟨?_, by rw [← e1]; exact mk_node ..⟩
      rw [hlen]
      rw [show n + 1 + l.length = n + l.length + 1 by omega]
      exact hj
/-- A way may be cut anywhere. -/
theorem On.cut {f : View} {k : List UInt8} {h e : Int} {l : List Int} (ho : On f k h d l e) : ∀ (j : Nat), j ≤ l.length → ∀ {t : Tr}, (f 0 = none) → Rep f h d t → ∃ c tc, Way f k h d (l.take j) c ∧ On f k c (d + j) (l.drop j) e ∧ Rep f c (d + j) tc := by
  induction ho with
  | stop h0 =>
    intro j hj t hz ht
    have : j = 0 := by simpa using hj
    subst this
    exact ⟨_, _, .nil, .stop h0, ht⟩
  | @step h d x l e hn hk hd hr ih =>
    intro j hj t hz ht
    cases j with
    | zero => exact ⟨_, _, .nil, .step hn hk hd hr, ht⟩
    | succ j =>
      cases ht with
      | nil => rw [hz] at hn; cases hn
      | leaf hn' hk' => rw [hn] at hn'; cases hn'; omega
      | @node _ _ x' tl tr hn' _ _ hl hr' =>
        rw [hn] at hn'
        cases hn'
        have hrown : Rep f (if kbit k d = 0 then x.left else x.right) (d + 1) (if kbit k d = 0 then tl else tr) := by split <;> assumption
        obtain ⟨c, tc, h1, h2, h3⟩ := ih j (by simpa using hj) hz hrown
        refine ⟨c, tc, .step hn hk hd h1, ?_, ?_⟩
        · rw [show d + (j + 1) = d + 1 + j by omega]; exact h2
        · rw [show d + (j + 1) = d + 1 + j by omega]; exact h3
theorem Way.len {f : View} {k : List UInt8} {h c : Int} {l : List Int} (hw : Way f k h d l c) : True := trivial
theorem Way.pre {f : View} (hf : Fit f) {k : List UInt8} {h c : Int} {l : List Int} (hw : Way f k h d l c) (hp : ∀ n, f h = some n → Pre n.key k d) : ∀ n, f c = some n → Pre n.key k (d + l.length) := by
  induction hw with
  | nil => simpa using hp
  | step hn hk hd _ ih =>
    intro n hc
    have := ih (fun y hy => (hf.way hn hk hd (hp _ hn)).1 y hy) n hc
    rw [List.length_cons, show ∀ a b : Nat, a + (b + 1) = a + 1 + b by omega]
    exact this
end
end Go.Proofs.YtpeebeebakjpdaaGreat.Store
