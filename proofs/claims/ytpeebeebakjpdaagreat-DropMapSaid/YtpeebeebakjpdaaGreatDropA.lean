/- drop.Drop as the laws use it. -/
import Derived.Test.YtpeebeebakjpdaaGreatDropV
namespace Go.Proofs.YtpeebeebakjpdaaGreat.Store
open Go Go.RowKit Go.Proofs.YtpeebeebakjpdaaGreat Go.Proofs.YtpeebeebakjpdaaGreat.ShaW Go.Proofs.YtpeebeebakjpdaaGreat.Path
set_option maxHeartbeats 1600000
set_option linter.unusedVariables false

section
variable {w0 w : World} {s : Nat} {σ σ' σ1 : SlabSt Nd} {F G : Nat → Prop} {root r now : Int} {t : Tr} {L : Ents} {key : List UInt8} {n : Nat}
/-- A leaf at a way's end is an entry. -/
theorem On.tree_end {f : View} (hz : f 0 = none) {k : List UInt8} : ∀ (m : Nat), m ≤ 256 → ∀ {L : Ents} {h e : Int} {l : List Int} {x : Nd}, L.Ok k (256 - m) → Rep f h (256 - m) (tree m L) → On f k h (256 - m) l e → f e = some x → x.kind = 1 → (x.key, x.value) ∈ L := by
  have leaf : ∀ {h e : Int} {l : List Int} {d : Nat} {p : List UInt8 × List UInt8} {x : Nd}, Rep f h d (.leaf p.1 p.2) → On f k h d l e → f e = some x → x.kind = 1 → (x.key, x.value) = p := by
    intro h e l d p x hr ho hx h1
    generalize ht : Tr.leaf p.1 p.2 = t at hr
    cases hr with
    | nil => cases ht
    | node _ _ _ _ _ => cases ht
    | leaf hn hk =>
      injection ht with e1 e2
      cases ho with
      | stop _ => rw [hn] at hx; cases hx; rw [← e1, ← e2]
      | step hn' hk' _ _ => rw [hn] at hn'; cases hn'; omega
  have small : ∀ (m d : Nat) {L : Ents} {h e : Int} {l : List Int} {x : Nd}, L.length ≤ 1 → Rep f h d (tree m L) → On f k h d l e → f e = some x → x.kind = 1 → (x.key, x.value) ∈ L := fun m d L h e l x hl hr ho hx h1 => by
    match L, hl with
    | [], _ =>
      rw [tree_nil] at hr
      have := hr.none_zero rfl
      subst this
      obtain ⟨_, e0⟩ := ho.zero hz
      rw [e0, hz] at hx
      cases hx
    | [p], _ =>
      rw [tree_one] at hr
      rw [leaf hr ho hx h1]
      simp
  intro m
  induction m with
  | zero => intro _ L h e l x hL hr ho hx h1; exact small 0 _ hL.few hr ho hx h1
  | succ m ih =>
    intro hm L h e l x hL hr ho hx h1
    by_cases h2 : 2 ≤ L.length
    · rw [tree_two h2] at hr
      rw [show 256 - (m + 1) = 255 - m by omega] at hL hr ho
      have hdm : 256 - m = 255 - m + 1 := by omega
      rw [hdm] at ih
      cases hr with
      | node hn hk2 hd hl hrr =>
        cases ho with
        | stop h0 =>
          rw [hx] at hn
          cases hn
          omega
        | step hn' _ _ hon =>
          rw [hn] at hn'
          cases hn'
          have hin := ih (by omega) (L := sideE (kbit k (255 - m)) (255 - m) L) hL.side (by
            rcases kbit_cases k (255 - m) with hb | hb
            · rw [hb, if_pos rfl]; exact hl
            · rw [hb, if_neg (by decide)]; exact hrr) hon hx h1
          exact (List.mem_filter.1 hin).1
    · exact small (m + 1) _ (by omega) hr ho hx h1
theorem there_key (D : Db σ root L) (hk : key.length = 32) {l : List Int} {e : Int} (ho : On (sk σ) key root 0 l e) : thereS σ key e = true ↔ key ∈ keysOf L := by
  have hz := D.good.fit.zero
  constructor
  · intro h
    unfold thereS at h
    simp at h
    cases hx : sk σ e with
    | none => rw [nd_gone hx] at h; exact absurd h.1 (by decide)
    | some x =>
      rw [nd_kind hx, nd_key hx] at h
      have := On.tree_end hz 256 (Nat.le_refl _) (Ents.Ok.any D.nodup D.len key) D.rep ho hx h.1
      rw [h.2] at this
      exact List.mem_map.2 ⟨_, this, rfl⟩
  · intro h
    obtain ⟨p, hp, e1⟩ := List.mem_map.1 h
    have hp' : (key, p.2) ∈ L := by rw [← e1]; exact hp
    obtain ⟨x, hx, h1, h2, _⟩ := On.find_tree hz 256 (Nat.le_refl _) (Ents.Ok.any D.nodup D.len key) hp' D.rep ho
    unfold thereS
    rw [nd_kind hx, nd_key hx, h1, h2]
    simp
/-- What a delete leaves as it was, and what it takes. -/
structure Cut (σ σ' : SlabSt Nd) (root r : Int) : Prop where
  sole : Sole σ root → Sole σ' r
  others : ∀ k, k ≠ root → 1 ≤ held σ k → sk σ' k = sk σ k ∧ held σ k ≤ held σ' k
  keeps : ∀ k d t, k ≠ root → 1 ≤ held σ k → Rep (sk σ) k d t → Rep (sk σ') k d t
  live : Store.live σ' ≤ Store.live σ + 256
  total : Store.total σ' ≤ Store.total σ + 1000
  room : σ'.room = σ.room
theorem DMid.dropped (h : DMid σ σ1 key now 0 t n) (hn : n ≤ 256) (hh : 1 ≤ held σ root) :
    Cut σ (dropS σ1 root).2.2 root now ∧ Good (dropS σ1 root).2.2 ∧ Rep (sk (dropS σ1 root).2.2) now 0 t ∧ (now = 0 ∨ 1 ≤ held (dropS σ1 root).2.2 now) := by
  have there : ∀ k, 1 ≤ held σ k → ∃ x, sk σ k = some x := fun k hk => by
    obtain ⟨x, hx, _⟩ := held_there hk
    exact ⟨_, sk_some hx⟩
  have hh1 : 1 ≤ held σ1 root := by
    obtain ⟨x, hx⟩ := there root hh
    rw [(h.old root x hx).2]
    split <;> omega
  obtain ⟨g0, g1, g2, g3, g4, g5, g6, g7⟩ := dropS_spec h.good.sound hh1
  have hdh := dropS_held h.good.sound hh1
  have hrootnow : now = root → 2 ≤ held σ1 root := fun e => by
    obtain ⟨x, hx⟩ := there root hh
    rw [(h.old root x hx).2, if_pos e.symm]
    omega
  have hnow : now = 0 ∨ ((∃ y, sk (dropS σ1 root).2.2 now = some y) ∧ 1 ≤ held (dropS σ1 root).2.2 now) := by
    rcases h.mine with e | h1
    · exact .inl e
    · right
      obtain ⟨y, hy, _⟩ := held_there h1
      by_cases e : now = root
      · obtain ⟨p, q⟩ := g4 (hrootnow e)
        subst e
        exact ⟨⟨_, by rw [p]; exact sk_some hy⟩, by rw [q]; have := hrootnow rfl; omega⟩
      · obtain ⟨p, q⟩ := g3 now e h1
        exact ⟨⟨_, by rw [p]; exact sk_some hy⟩, by rw [q]; exact h1⟩
  refine ⟨⟨fun hs => fun k hk => ?_, fun k hkr hk1 => ?_, fun k d t' hkr hk1 hrk => ?_, by have := h.live; omega, by have := h.total; omega, by rw [g7, h.room]⟩, h.good.drop root, h.rep.shrink g2 g1.closed (hnow.imp id (fun h => h.1)) h.good.fit.zero, hnow.imp id (fun h => h.2)⟩
  · rcases hdh k with e | e
    · omega
    · rw [e] at hk ⊢
      by_cases hkr : k = root
      · rw [if_pos hkr] at hk ⊢
        obtain ⟨x, hx⟩ := there root hh
        have ho := (h.old root x hx).2
        have h1 := (hs root hh).2
        by_cases e2 : root = now
        · rw [if_pos e2] at ho
          exact ⟨hkr.trans e2, by omega⟩
        · rw [if_neg e2] at ho
          omega
      · rw [if_neg hkr] at hk ⊢
        rcases h.only k hk with e2 | e2
        · refine ⟨e2, ?_⟩
          subst e2
          cases hx : sk σ k with
          | none =>
            rcases h.one hx with h1 | h1
            · rw [h1, held_zero] at hk; omega
            · exact h1
          | some x =>
            have ho := (h.old k x hx).2
            rw [if_pos rfl] at ho
            have hnn := held_nonneg (σ := σ1) h.good.sound k
            by_cases h2 : 1 ≤ held σ k
            · exact absurd (hs k h2).1 hkr
            · have h3 : 0 ≤ held σ k := by
                obtain ⟨y, hy, _⟩ := sk_get hx
                by_cases h4 : 0 ≤ held σ k
                · exact h4
                · omega
              omega
        · exact absurd (hs k e2).1 hkr
  · obtain ⟨x, hx⟩ := there k hk1
    obtain ⟨p, q⟩ := h.old k x hx
    have hk2 : 1 ≤ held σ1 k := by rw [q]; split <;> omega
    obtain ⟨a, b⟩ := g3 k hkr hk2
    exact ⟨by rw [a, p, hx], by rw [b, q]; split <;> omega⟩
  · obtain ⟨x, hx⟩ := there k hk1
    obtain ⟨p, q⟩ := h.old k x hx
    have hk2 : 1 ≤ held σ1 k := by rw [q]; split <;> omega
    obtain ⟨a, _⟩ := g3 k hkr hk2
    exact (hrk.grow (fun k x hx => (h.old k x hx).1)).shrink g2 g1.closed (.inr ⟨x, by rw [a, p]⟩) h.good.fit.zero
/-- A delete: the root behind it has the entries but for the key's. -/
theorem Drop_db (h : Ow w0 w s σ G) (D : Db σ root L) (hk : key.length = 32) (hroom : live σ + 258 ≤ σ.room) (htot : total σ + 1000 < 1073741824) :
    Calls Tryz.prog 17 #[.pointer (some ⟨s, 0, none⟩), .int .i64 root, .agg (brow key)] w fun e w' => ∃ r σ' gone, e = .returned (.tuple #[.int .i64 r, .bool gone, .int .i64 0]) ∧ Ow w0 w' s σ' G ∧ But G w w' ∧
      Cut σ σ' root r ∧ Db σ' r (without L key) ∧ (gone = true ↔ key ∈ keysOf L) ∧ (gone = false → r = root ∧ σ' = σ) := by
  have hz := D.good.fit.zero
  obtain ⟨l, e1, ho⟩ := On.ex (k := key) D.rep
  have hf : fitsJ σ 1 = true := by rw [fitsJ_one, D.good.used]; exact decide_eq_true hroom
  have hth := there_key D hk ho
  cases hs : thereS σ key e1 with
  | false =>
    obtain ⟨F, hAt⟩ := h.at
    have hno : key ∉ keysOf L := fun hm => by have := hth.2 hm; rw [hs] at this; cases this
    refine (Drop_no hAt D.good root key hk D.hand hf ho hs).mono fun e w' ⟨he, ha⟩ => ⟨root, σ, false, he, h.adds ha, Adds.but ha, ?_, by rw [without_none hno]; exact D, ⟨fun h => (by cases h), fun h => absurd h hno⟩, fun _ => ⟨rfl, rfl⟩⟩
    exact ⟨id, fun _ _ _ => ⟨rfl, Int.le_refl _⟩, fun _ _ _ _ _ h => h, Nat.le_add_right _ _, Nat.le_add_right _ _, rfl⟩
  | true =>
    obtain ⟨n, hn, hm⟩ := cut_spec D.good hk D.rep ho hs (by omega) htot
    have hr0 : root ≠ 0 := fun e => by
      subst e
      obtain ⟨_, e⟩ := ho.zero hz
      unfold thereS at hs
      rw [e] at hs
      have : (nd σ 0).kind = 0 := nd_gone hz
      rw [this] at hs
      simp at hs
    obtain ⟨c1, c2, c3, c4⟩ := hm.dropped hn (D.held.resolve_left hr0)
    have hdt := del_tree (k := key) 256 (Nat.le_refl _) (Ents.Ok.any D.nodup D.len key) hk
    rw [Nat.sub_self] at hdt
    rw [hdt] at c3
    exact (DropK_ok h D.good root key hk D.hand hf ho hs).mono fun e w' ⟨he, ho', hb'⟩ => ⟨_, _, true, he, ho', hb', c1, ⟨c2, c3, D.nodup.sublist (keys_filter L _), fun p hp => D.len p (List.mem_filter.1 hp).1, c4⟩, ⟨fun _ => hth.1 hs, fun _ => rfl⟩, fun h => (by cases h)⟩
end
end Go.Proofs.YtpeebeebakjpdaaGreat.Store
