/- A key is deleted, plainly: the calls build the tree of what is left. -/
import Derived.Test.YtpeebeebakjpdaaGreatDropP
import Derived.Test.YtpeebeebakjpdaaGreatDropT
namespace Go.Proofs.YtpeebeebakjpdaaGreat.Store
open Go Go.RowKit Go.Proofs.YtpeebeebakjpdaaGreat Go.Proofs.YtpeebeebakjpdaaGreat.ShaW Go.Proofs.YtpeebeebakjpdaaGreat.Path
set_option linter.unusedVariables false

section
variable {σ0 σ τ : SlabSt Nd} {key : List UInt8} {now other : Int} {d n : Nat} {t u : Tr}
/-- In the midst of a Drop: n nodes have been made; now stands for the tree from depth d on. -/
structure DMid (σ0 σ : SlabSt Nd) (key : List UInt8) (now : Int) (d : Nat) (t : Tr) (n : Nat) : Prop where
  good : Good σ
  old : ∀ k x, sk σ0 k = some x → sk σ k = some x ∧ held σ k = held σ0 k + (if k = now then 1 else 0)
  mine : now = 0 ∨ 1 ≤ held σ now
  one : sk σ0 now = none → now = 0 ∨ held σ now = 1
  only : ∀ k, 1 ≤ held σ k → k = now ∨ 1 ≤ held σ0 k
  there : ∀ y, sk σ now = some y → Pre y.key key d
  rep : Rep (sk σ) now d t
  live : Store.live σ = Store.live σ0 + n
  total : Store.total σ ≤ Store.total σ0 + 2 * n + 1
  room : σ.room = σ0.room
theorem held_zero (σ : SlabSt Nd) : held σ 0 = 0 := rfl
/-- Something stays: it is held once more. -/
theorem DMid.start (G : Good σ0) (htot : Store.total σ0 < 1073741824) {st : Int} (hr : Rep (sk σ0) st d t) (hp : ∀ y, sk σ0 st = some y → Pre y.key key d) : DMid σ0 (heldS σ0 st) key st d t 0 := by
  have hs : st = 0 ∨ ∃ y, sk σ0 st = some y := hr.live
  obtain ⟨s1, s2, s3, s4, s5⟩ := heldS_spec G hs htot
  have e0 : sk (heldS σ0 st) = sk σ0 := funext s1
  have hz := G.fit.zero
  refine ⟨G.heldS st, fun k x hx => ⟨by rw [s1]; exact hx, ?_⟩, ?_, fun h0 => ?_, fun k hk => ?_, fun y hy => ?_, by rw [e0]; exact hr, s3, by omega, s5⟩
  · rw [s2]
    have hk0 : k ≠ 0 := fun e => by rw [e, hz] at hx; cases hx
    by_cases e : k = st
    · rw [if_pos ⟨hk0, e⟩, if_pos e]
    · rw [if_neg (fun h => e h.2), if_neg e]; omega
  · by_cases e : st = 0
    · exact .inl e
    · right
      rw [s2, if_pos ⟨e, rfl⟩]
      have := held_nonneg G.sound st
      omega
  · rcases hs with e | ⟨y, hy⟩
    · exact .inl e
    · rw [h0] at hy; cases hy
  · rw [s2] at hk
    by_cases e : k ≠ 0 ∧ k = st
    · exact .inl e.2
    · rw [if_neg e] at hk; exact .inr hk
  · rw [e0] at hy; exact hp y hy
/-- What is beside: nothing, or a tree of before with other keys. -/
def Next (σ0 : SlabSt Nd) (key : List UInt8) (d : Nat) (other : Int) (u : Tr) : Prop :=
  (other = 0 ∧ u = .nil) ∨ ∃ y, sk σ0 other = some y ∧ Rep (sk σ0) other (d + 1) u ∧ Pre y.key key d ∧ kbit y.key d ≠ kbit key d
theorem DMid.join (h : DMid σ0 σ key now (d + 1) t n) (hd : d ≤ 255) (hroom : Store.live σ0 + n < σ0.room) (htot : Store.total σ0 + 2 * n + 3 < 1073741824) (hk : key.length = 32) (ho : Next σ0 key d other u) (hno : now ≠ other ∨ now = 0)
    (hc : t.isNode = true ∨ u.isNode = true ∨ (now ≠ 0 ∧ other ≠ 0)) :
    DMid σ0 (joinS (heldS σ other) key (d : Nat) now other).2.2 key (joinS (heldS σ other) key (d : Nat) now other).1 d (Store.mk key d t u) (n + 1) := by
  have hz := h.good.fit.zero
  have hother : other = 0 ∨ ∃ z, sk σ other = some z ∧ Rep (sk σ) other (d + 1) u ∧ Pre z.key key d ∧ kbit z.key d ≠ kbit key d := by
    rcases ho with ⟨e, _⟩ | ⟨z, z1, z2, z3, z4⟩
    · exact .inl e
    · exact .inr ⟨z, (h.old _ _ z1).1, z2.grow (fun k x hx => (h.old k x hx).1), z3, z4⟩
  have hnull : now = 0 → t = .nil := fun e => by have := h.rep; rw [e] at this; exact this.zero hz
  have hnull2 : other = 0 → u = .nil := fun e => by
    rcases ho with ⟨_, e2⟩ | ⟨z, z1, _⟩
    · exact e2
    · have := (h.old _ _ z1).1; rw [e, hz] at this; cases this
  obtain ⟨s1, s2, s3, s4, s5⟩ := heldS_spec h.good (other := other) (hother.imp id fun ⟨z, z1, _⟩ => ⟨z, z1⟩) (by have := h.total; omega)
  have G := h.good.heldS other
  have e0 : sk (heldS σ other) = sk σ := funext s1
  obtain ⟨τ, hτ⟩ : ∃ τ, τ = heldS σ other := ⟨_, rfl⟩
  rw [← hτ] at s1 s2 s3 s4 s5 G e0 ⊢
  have hu : τ.used < τ.room := by rw [G.used, s3, s5, h.room]; have := h.live; omega
  have hnow : ∀ k, k ≠ 0 → k = now → k ≠ other := fun k k0 e e2 => by
    rcases hno with h1 | h1
    · exact h1 (e.symm.trans e2)
    · exact k0 (e.trans h1)
  have snow : SideOk τ now := ⟨h.mine.imp id fun h1 => by
    rw [s2]
    split <;> omega⟩
  have soth : SideOk τ other := ⟨by
    by_cases e : other = 0
    · exact .inl e
    · right
      rw [s2, if_pos ⟨e, rfl⟩]
      have := held_nonneg h.good.sound other
      omega⟩
  have rnow : Rep (sk τ) now (d + 1) t := by rw [e0]; exact h.rep
  have roth : Rep (sk τ) other (d + 1) u := by
    rw [e0]
    rcases hother with e | ⟨z, _, z2, _, _⟩
    · rw [e, hnull2 e]; exact .nil
    · exact z2
  have pnow1 : ∀ y, sk τ now = some y → Pre y.key key (d + 1) := fun x hx => by rw [e0] at hx; exact h.there x hx
  have pnow : ∀ y, sk τ now = some y → Pre y.key key d := fun x hx => (pnow1 x hx).less (by omega)
  have poth : ∀ y, sk τ other = some y → Pre y.key key d ∧ kbit y.key d ≠ kbit key d := fun x hx => by
    rw [e0] at hx
    rcases hother with e | ⟨z, z1, z2, z3, z4⟩
    · rw [e, hz] at hx; cases hx
    · rw [z1] at hx; cases hx; exact ⟨z3, z4⟩
  have hzt : sk τ 0 = none := by rw [e0]; exact hz
  have nfit : now ≠ 0 → ∃ y, sk τ now = some y ∧ ndF (sk τ) now = y ∧ fitB y (d : Nat) (kbit key d : Nat) = true := fun e => by
    obtain ⟨y, y1⟩ := snow.side.resolve_left e
    refine ⟨y, y1, ndF_some y1, fitB_of (fun hk => by have := rnow.node_depth y1 hzt hk; omega) ?_⟩
    rw [bit_in (by omega), pnow1 y y1 d (by omega)]
  have ofit : other ≠ 0 → ∃ z, sk τ other = some z ∧ ndF (sk τ) other = z ∧ fitB z (d : Nat) (1 - kbit key d : Nat) = true := fun e => by
    obtain ⟨z, z1⟩ := soth.side.resolve_left e
    obtain ⟨z3, z4⟩ := poth z z1
    refine ⟨z, z1, ndF_some z1, fitB_of (fun hk => by have := roth.node_depth z1 hzt hk; omega) ?_⟩
    rw [bit_in (by omega)]
    rcases kbit_cases z.key d with h1 | h1 <;> rcases kbit_cases key d with h2 | h2 <;> rw [h1, h2] at z4 ⊢
    · exact absurd rfl z4
    · exact absurd rfl z4
  have cfit : ∀ y z, sk τ now = some y → sk τ other = some z → (d : Int) ≤ (common y.key z.key : Nat) ∧ (d : Int) ≤ (common z.key y.key : Nat) := fun y z hy hz1 => by
    have zl : z.key.length = 32 := (G.fit.all _ _ hz1).key
    have yl : y.key.length = 32 := (G.fit.all _ _ hy).key
    have h1 := le_common yl zl (d := d) (by omega) ((pnow y hy).trans (poth z hz1).1.symm)
    have h2 := le_common zl yl (d := d) (by omega) ((poth z hz1).1.trans (pnow y hy).symm)
    omega
  have lone1 : other = 0 → now ≠ 0 ∧ ∀ y, sk τ now = some y → y.kind = 2 := fun e => by
    have ht : t.isNode = true := by
      rcases hc with h1 | h1 | h1
      · exact h1
      · rw [hnull2 e] at h1; cases h1
      · exact absurd e h1.2
    refine ⟨fun e2 => (by rw [hnull e2] at ht; cases ht), fun y hy => rnow.isNode hy hzt ht⟩
  have lone2 : now = 0 → other ≠ 0 ∧ ∀ y, sk τ other = some y → y.kind = 2 := fun e => by
    have ht : u.isNode = true := by
      rcases hc with h1 | h1 | h1
      · rw [hnull e] at h1; cases h1
      · exact h1
      · exact absurd e h1.1
    refine ⟨fun e2 => (by rw [hnull2 e2] at ht; cases ht), fun y hy => roth.isNode hy hzt ht⟩
  have key1 : ∀ l r : Int, SideOk τ l → SideOk τ r → fitsB (d : Nat) l r (nd τ l) (nd τ r) = true → (l = now ∧ r = other ∨ l = other ∧ r = now) → ∀ T : Tr, Rep (sk (innerS τ (d : Nat) l r).2.2) (innerS τ (d : Nat) l r).1 d T →
      (∃ y, sk (innerS τ (d : Nat) l r).2.2 (innerS τ (d : Nat) l r).1 = some y ∧ Pre y.key key d) → DMid σ0 (innerS τ (d : Nat) l r).2.2 key (innerS τ (d : Nat) l r).1 d T (n + 1) := fun l r sl sr hf hlr T hT hP => by
    obtain ⟨_, q1, q2, q3, q4, q5, q6, q7⟩ := innerS_spec G.sound hu (d := (d : Nat)) (by omega) (by omega) sl sr hf
    have hold : ∀ k x, sk σ0 k = some x → k ≠ (innerS τ (d : Nat) l r).1 := fun k x hx e => by
      have := (h.old k x hx).1
      rw [← s1, e, q2] at this
      cases this
    have hin : ∀ k, (k = l ∨ k = r) ↔ (k = now ∨ k = other) := fun k => by
      rcases hlr with ⟨e1, e2⟩ | ⟨e1, e2⟩
      · rw [e1, e2]
      · rw [e1, e2, or_comm]
    have q4' : ∀ k, k ≠ (innerS τ (d : Nat) l r).1 → held (innerS τ (d : Nat) l r).2.2 k = if k ≠ 0 ∧ k = now then held σ k - 1 else held σ k := fun k hkn => by
      rw [q4, if_neg hkn, s2]
      by_cases hk0 : k = 0
      · rw [if_neg (fun h => h.1 hk0), if_neg (fun h => h.1 hk0), if_neg (fun h => h.1 hk0)]
      · by_cases e1 : k = now
        · rw [if_pos ⟨hk0, (hin k).2 (.inl e1)⟩, if_neg (fun h => hnow k hk0 e1 h.2), if_pos ⟨hk0, e1⟩]
        · by_cases e2 : k = other
          · rw [if_pos ⟨hk0, (hin k).2 (.inr e2)⟩, if_pos ⟨hk0, e2⟩, if_neg (fun h => e1 h.2)]; omega
          · rw [if_neg (fun h => ((hin k).1 h.2).elim e1 e2), if_neg (fun h => e2 h.2), if_neg (fun h => e1 h.2)]
    refine ⟨G.inner _ _ _, fun k x hx => ?_, .inr (by rw [q4, if_pos rfl]; omega), fun _ => .inr (by rw [q4, if_pos rfl]), fun k hk => ?_, fun y hy => ?_, hT, by have := h.live; omega, by have := h.total; omega, by rw [q7, s5, h.room]⟩
    · have hk1 := hold k x hx
      obtain ⟨p1, p2⟩ := h.old k x hx
      have hk0 : k ≠ 0 := fun e => by rw [e, hz] at p1; cases p1
      rw [q3, if_neg hk1, s1, q4' k hk1, if_neg hk1]
      refine ⟨p1, ?_⟩
      by_cases e1 : k = now
      · rw [if_pos ⟨hk0, e1⟩, p2, if_pos e1]; omega
      · rw [if_neg (fun h => e1 h.2), p2, if_neg e1]
    · by_cases e : k = (innerS τ (d : Nat) l r).1
      · exact .inl e
      · right
        rw [q4' k e] at hk
        have hk0 : k ≠ 0 := fun e0 => by rw [if_neg (fun h => h.1 e0), e0, held_zero] at hk; omega
        by_cases e1 : k = now
        · rw [if_pos ⟨hk0, e1⟩] at hk
          cases hx : sk σ0 k with
          | none =>
            rw [e1] at hx
            rcases h.one hx with h1 | h1
            · exact absurd (e1.trans h1) hk0
            · rw [e1] at hk; omega
          | some x =>
            have := (h.old k x hx).2
            rw [if_pos e1] at this
            omega
        · rw [if_neg (fun h => e1 h.2)] at hk
          exact (h.only k hk).resolve_left e1
    · obtain ⟨y', hy', hp⟩ := hP
      rw [hy'] at hy
      cases hy
      exact hp
  have hb : bit key (d : Nat) = (kbit key d : Nat) := bit_in (by omega)
  have fitsL : fitsB (d : Nat) now other (ndF (sk τ) now) (ndF (sk τ) other) = true ∨ kbit key d ≠ 0 := by
    by_cases hb0 : kbit key d = 0
    · left
      rw [hb0] at nfit ofit
      unfold fitsB
      by_cases e1 : now = 0
      · obtain ⟨e2, e3⟩ := lone2 e1
        obtain ⟨z, z1, z2, z3⟩ := ofit e2
        rw [if_pos e1, if_neg e2, z2, e3 z z1, show fitB z (d : Nat) 1 = true from z3]
        rfl
      · obtain ⟨y, y1, y2, y3⟩ := nfit e1
        rw [if_neg e1]
        by_cases e2 : other = 0
        · rw [if_pos e2, y2, (lone1 e2).2 y y1, show fitB y (d : Nat) 0 = true from y3]
          rfl
        · obtain ⟨z, z1, z2, z3⟩ := ofit e2
          rw [if_neg e2, y2, z2, show fitB y (d : Nat) 0 = true from y3, show fitB z (d : Nat) 1 = true from z3, decide_eq_true (cfit y z y1 z1).1]
          rfl
    · exact .inr hb0
  have fitsR : fitsB (d : Nat) other now (ndF (sk τ) other) (ndF (sk τ) now) = true ∨ kbit key d ≠ 1 := by
    by_cases hb1 : kbit key d = 1
    · left
      rw [hb1] at nfit ofit
      unfold fitsB
      by_cases e2 : other = 0
      · obtain ⟨e1, e3⟩ := lone1 e2
        obtain ⟨y, y1, y2, y3⟩ := nfit e1
        rw [if_pos e2, if_neg e1, y2, e3 y y1, show fitB y (d : Nat) 1 = true from y3]
        rfl
      · obtain ⟨z, z1, z2, z3⟩ := ofit e2
        rw [if_neg e2]
        by_cases e1 : now = 0
        · rw [if_pos e1, z2, (lone2 e1).2 z z1, show fitB z (d : Nat) 0 = true from z3]
          rfl
        · obtain ⟨y, y1, y2, y3⟩ := nfit e1
          rw [if_neg e1, y2, z2, show fitB y (d : Nat) 1 = true from y3, show fitB z (d : Nat) 0 = true from z3, decide_eq_true (cfit y z y1 z1).2]
          rfl
    · exact .inr hb1
  unfold joinS Store.mk
  rcases kbit_cases key d with hb0 | hb1
  · rw [hb, hb0]
    simp only [show ((0 : Nat) : Int) ≠ 1 by decide, if_false, if_true]
    have hf : fitsB (d : Nat) now other (nd τ now) (nd τ other) = true := by rw [fitsB_sk]; exact fitsL.resolve_right (fun h => h hb0)
    obtain ⟨hT, hP⟩ := inner_rep G hu hd snow soth hf rnow roth pnow (fun y hy => (poth y hy).1)
    exact key1 now other snow soth hf (.inl ⟨rfl, rfl⟩) _ hT hP
  · rw [hb, hb1]
    simp only [show ((1 : Nat) : Int) = 1 from rfl, show ¬ ((1 : Nat) = 0) by decide, if_false, if_true]
    have hf : fitsB (d : Nat) other now (nd τ other) (nd τ now) = true := by rw [fitsB_sk]; exact fitsR.resolve_right (fun h => h hb1)
    obtain ⟨hT, hP⟩ := inner_rep G hu hd soth snow hf roth rnow (fun y hy => (poth y hy).1) pnow
    exact key1 other now soth snow hf (.inr ⟨rfl, rfl⟩) _ hT hP
end
end Go.Proofs.YtpeebeebakjpdaaGreat.Store
