/- Many roots in one store: who is held, the entries behind each; a write, a delete, a hold, a drop. -/
import Derived.Test.YtmeglndnkdgkoaaGreatPutD
namespace Go.Proofs.YtmeglndnkdgkoaaGreat.Store
open Go Go.RowKit Go.Proofs.YtmeglndnkdgkoaaGreat Go.Proofs.YtmeglndnkdgkoaaGreat.ShaW Go.Proofs.YtmeglndnkdgkoaaGreat.Path
set_option maxHeartbeats 1600000
set_option linter.unusedVariables false

section
variable {w0 w : World} {s : Nat} {σ σ' σ0 σ1 : SlabSt Nd} {F G : Nat → Prop} {root r now : Int} {t : Tr} {L L' : Ents} {key bs : List UInt8} {n : Nat} {R R' : List (Int × Ents)}
theorem held_none0 (σ : SlabSt Nd) : Store.held σ 0 = 0 := rfl
/-- What a call has done: nodes that stay are as they were; who is held by callers. -/
structure Step (σ σ' : SlabSt Nd) (root r : Int) : Prop where
  good : Good σ'
  agree : ∀ k x, sk σ k = some x → sk σ' k = none ∨ sk σ' k = some x
  held : ∀ k, k ≠ 0 → Store.held σ' k = Store.held σ k - (if k = root then 1 else 0) + (if k = r then 1 else 0)
theorem Step.refl (h : Good σ) (root : Int) : Step σ σ root root := ⟨h, fun _ _ hx => .inr hx, fun k _ => by split <;> omega⟩
theorem Step.keep (h : Step σ σ' root r) (hz : sk σ 0 = none) {k : Int} {d : Nat} {t : Tr} (hr : Rep (sk σ) k d t) (h0 : k = 0 ∨ ∃ y, sk σ' k = some y) : Rep (sk σ') k d t := by
  have back : ∀ k n, sk σ k = some n → (k = 0 ∨ ∃ m, sk σ' k = some m) → sk σ' k = some n := fun k n hn hk => by
    rcases hk with rfl | ⟨m, hm⟩
    · rw [hz] at hn; cases hn
    · rcases h.agree k n hn with e | e
      · rw [e] at hm; cases hm
      · exact e
  have hc := Sound.closed h.good.sound
  induction hr with
  | nil => exact .nil
  | leaf hn hk => exact .leaf (back _ _ hn h0) hk
  | node hn hk hd _ _ ihl ihr =>
    have := back _ _ hn h0
    exact .node this hk hd (ihl (hc _ _ this).1) (ihr (hc _ _ this).2)
theorem held_there' {k : Int} (h : 1 ≤ Store.held σ k) : ∃ x, sk σ k = some x := by
  obtain ⟨x, hx, _⟩ := held_there h
  exact ⟨_, sk_some hx⟩
theorem held_gone {k : Int} (h : sk σ k = none) (hs : Sound σ []) : Store.held σ k = 0 := by
  have hn := held_nonneg hs k
  by_cases e : 1 ≤ Store.held σ k
  · obtain ⟨x, hx⟩ := held_there' e
    rw [h] at hx; cases hx
  · omega
theorem dropS_held' (hs : Sound σ []) {h : Int} (hh : 1 ≤ Store.held σ h) (k : Int) : Store.held (dropS σ h).2.2 k = Store.held σ k - (if k = h then 1 else 0) := by
  obtain ⟨_, _, _, g3, g4, _, _, _⟩ := dropS_spec hs hh
  have hd := dropS_held hs hh k
  have hn := held_nonneg hs k
  by_cases e : k = h
  · subst e
    rw [if_pos rfl] at hd ⊢
    by_cases h2 : 2 ≤ Store.held σ k
    · exact (g4 h2).2
    · rcases hd with e | e <;> omega
  · rw [if_neg e] at hd ⊢
    by_cases h1 : 1 ≤ Store.held σ k
    · rw [(g3 k e h1).2]; omega
    · rcases hd with e | e <;> omega
theorem dropS_step (G : Good σ) {h : Int} (hh : 1 ≤ Store.held σ h) : Step σ (dropS σ h).2.2 h 0 := by
  obtain ⟨_, _, g2, _⟩ := dropS_spec G.sound hh
  refine ⟨G.drop h, fun k x hx => ?_, fun k hk => by rw [dropS_held' G.sound hh, if_neg hk]; omega⟩
  rcases g2 k with e | e
  · exact .inl e
  · exact .inr (e.trans hx)
theorem PutMid.held' (h : PutMid σ0 σ key now 0 t n) (G : Good σ0) (k : Int) : Store.held σ k = Store.held σ0 k + (if k = now then 1 else 0) := by
  have hn := held_nonneg h.good.sound k
  by_cases e : k = now
  · subst e
    rw [if_pos rfl, h.one, held_gone h.fresh G.sound]
    rfl
  · rw [if_neg e]
    cases hx : sk σ0 k with
    | some x => rw [(h.old k x hx).2]; omega
    | none =>
      rw [held_gone hx G.sound]
      by_cases h1 : 1 ≤ Store.held σ k
      · rcases h.only k h1 with h2 | h2
        · exact absurd h2 e
        · rw [held_gone hx G.sound] at h2; omega
      · omega
theorem PutMid.step (h : PutMid σ0 σ key now 0 t n) (G : Good σ0) (hh : root = 0 ∨ 1 ≤ Store.held σ0 root) : Step σ0 (if root ≠ 0 then (dropS σ root).2.2 else σ) root now := by
  have hh' := h.held' G
  by_cases h0 : root = 0
  · rw [if_neg (by simpa using h0)]
    exact ⟨h.good, fun k x hx => .inr (h.old k x hx).1, fun k hk => by rw [hh', h0, if_neg hk]; omega⟩
  · rw [if_pos h0]
    have hr := hh.resolve_left h0
    have hr1 : 1 ≤ Store.held σ root := by rw [hh']; split <;> omega
    have hd := dropS_step h.good hr1
    refine ⟨hd.good, fun k x hx => hd.agree k x (h.old k x hx).1, fun k hk => ?_⟩
    rw [hd.held k hk, hh', if_neg hk]
    omega
/-- How often a root is held. -/
def roots (R : List (Int × Ents)) (k : Int) : Nat := R.countP (fun p => p.1 == k)
theorem roots_cons (p : Int × Ents) (R : List (Int × Ents)) (k : Int) : roots (p :: R) k = roots R k + (if k = p.1 then 1 else 0) := by
  unfold roots
  rw [List.countP_cons]
  by_cases e : k = p.1
  · simp [e]
  · have : ¬ p.1 = k := fun h => e h.symm
    simp [e, this]
theorem roots_pos {p : Int × Ents} (h : p ∈ R) : 1 ≤ roots R p.1 := List.countP_pos_iff.2 ⟨p, h, by simp⟩
/-- The roots that callers hold (0: none), each with the entries behind it. -/
structure Roots (σ : SlabSt Nd) (R : List (Int × Ents)) : Prop where
  good : Good σ
  held : ∀ k, k ≠ 0 → Store.held σ k = (roots R k : Nat)
  rep : ∀ p ∈ R, Rep (sk σ) p.1 0 (tree 256 p.2)
  nodup : ∀ p ∈ R, (keysOf p.2).Nodup
  len : ∀ p ∈ R, ∀ q ∈ p.2, q.1.length = 32
theorem Roots.new (n : Nat) (h1 : 1 ≤ n) (h2 : n ≤ 65536) : Roots ⟨n, [], []⟩ [] := by
  refine ⟨Good.new n h1 h2, fun k hk => ?_, fun p hp => (by cases hp), fun p hp => (by cases hp), fun p hp => (by cases hp)⟩
  rw [held_gone (by unfold sk SlabSt.get?; split <;> simp [Option.filter]) (Good.new n h1 h2).sound]
  rfl
theorem Roots.perm (h : Roots σ R) (hp : R.Perm R') : Roots σ R' :=
  ⟨h.good, fun k hk => by rw [h.held k hk]; unfold roots; rw [hp.countP_eq], fun p hm => h.rep p (hp.mem_iff.2 hm), fun p hm => h.nodup p (hp.mem_iff.2 hm), fun p hm => h.len p (hp.mem_iff.2 hm)⟩
theorem Roots.there (h : Roots σ R) {p : Int × Ents} (hp : p ∈ R) : p.1 = 0 ∨ 1 ≤ Store.held σ p.1 := by
  by_cases e : p.1 = 0
  · exact .inl e
  · right
    rw [h.held _ e]
    have := roots_pos hp
    omega
theorem Roots.db (h : Roots σ R) {p : Int × Ents} (hp : p ∈ R) : Db σ p.1 p.2 := ⟨h.good, h.rep p hp, h.nodup p hp, h.len p hp, h.there hp⟩
theorem Db.roots (D : Db σ root L) (hs : Sole σ root) : Roots σ [(root, L)] := by
  refine ⟨D.good, fun k hk => ?_, fun p hp => ?_, fun p hp => ?_, fun p hp => ?_⟩
  · rw [roots_cons]
    have hn := held_nonneg D.good.sound k
    show _ = ((0 + _ : Nat) : Int)
    by_cases e : k = root
    · rw [if_pos e]
      rcases D.held with h | h
      · exact absurd (e.trans h) hk
      · rw [e]; have := (hs root h).2; omega
    · rw [if_neg e]
      by_cases h1 : 1 ≤ Store.held σ k
      · exact absurd (hs k h1).1 e
      · omega
  · obtain rfl := List.mem_singleton.1 hp; exact D.rep
  · obtain rfl := List.mem_singleton.1 hp; exact D.nodup
  · obtain rfl := List.mem_singleton.1 hp; exact D.len
theorem Roots.step (h : Roots σ ((root, L) :: R)) (hs : Step σ σ' root r) (hr : Rep (sk σ') r 0 (tree 256 L')) (hn : (keysOf L').Nodup) (hl : ∀ q ∈ L', q.1.length = 32) : Roots σ' ((r, L') :: R) := by
  have hz := h.good.fit.zero
  have hh : ∀ k, k ≠ 0 → Store.held σ' k = (roots ((r, L') :: R) k : Nat) := fun k hk => by
    rw [hs.held k hk, h.held k hk, roots_cons, roots_cons]
    simp only
    (repeat' split) <;> omega
  refine ⟨hs.good, hh, fun p hp => ?_, fun p hp => ?_, fun p hp => ?_⟩
  · rcases List.mem_cons.1 hp with rfl | hp'
    · exact hr
    · refine hs.keep hz (h.rep p (List.mem_cons_of_mem _ hp')) ?_
      by_cases e : p.1 = 0
      · exact .inl e
      · right
        refine held_there' ?_
        rw [hh _ e]
        have := roots_pos hp
        omega
  · rcases List.mem_cons.1 hp with rfl | hp
    · exact hn
    · exact h.nodup p (List.mem_cons_of_mem _ hp)
  · rcases List.mem_cons.1 hp with rfl | hp
    · exact hl
    · exact h.len p (List.mem_cons_of_mem _ hp)
theorem Roots.less (h : Roots σ ((0, L) :: R)) : Roots σ R :=
  ⟨h.good, fun k hk => by rw [h.held k hk, roots_cons, if_neg hk]; rfl, fun p hp => h.rep p (List.mem_cons_of_mem _ hp), fun p hp => h.nodup p (List.mem_cons_of_mem _ hp), fun p hp => h.len p (List.mem_cons_of_mem _ hp)⟩
theorem Roots.zero (h : Roots σ R) : Roots σ ((0, []) :: R) := by
  refine ⟨h.good, fun k hk => by rw [h.held k hk, roots_cons, if_neg hk]; rfl, fun p hp => ?_, fun p hp => ?_, fun p hp => ?_⟩
  · rcases List.mem_cons.1 hp with rfl | hp
    · exact .nil
    · exact h.rep p hp
  · rcases List.mem_cons.1 hp with rfl | hp
    · exact List.nodup_nil
    · exact h.nodup p hp
  · rcases List.mem_cons.1 hp with rfl | hp
    · exact fun q hq => by cases hq
    · exact h.len p hp
/-- Just one root is held: the store has its nodes alone. -/
theorem Roots.live (h : Roots σ R) {p : Int × Ents} (hp : p ∈ R) (ho : ∀ q ∈ R, q.1 = 0 ∨ q.1 = p.1) : Store.live σ = (tree 256 p.2).nodes :=
  live_nodes h.good (h.rep p hp) fun k hk => by
    have h0 : k ≠ 0 := fun e => by rw [e, held_none0] at hk; omega
    rw [h.held k h0] at hk
    obtain ⟨q, hq, e⟩ := List.countP_pos_iff.1 (show 0 < R.countP (fun p => p.1 == k) by unfold roots at hk; omega)
    have e' : q.1 = k := by simpa using e
    rcases ho q hq with h1 | h1
    · exact absurd (e'.symm.trans h1) h0
    · rw [← e', h1]
/-- A root that is held once more. -/
theorem Roots.hold (h : Roots σ ((root, L) :: R)) (h0 : root ≠ 0) (ht : Store.total σ < 1073741824) : (holdS σ root).1 = 0 ∧ Roots (holdS σ root).2 ((root, L) :: (root, L) :: R) ∧ Store.live (holdS σ root).2 = Store.live σ ∧ Store.total (holdS σ root).2 = Store.total σ + 1 ∧ (holdS σ root).2.room = σ.room := by
  obtain ⟨h1, h2, h3, h4, h5, h6, h7⟩ := hold_db (h.db (List.mem_cons_self ..)) h0 ht
  have e : sk (holdS σ root).2 = sk σ := funext h3
  refine ⟨h1, ⟨h2.good, fun k hk => ?_, fun p hp => ?_, fun p hp => ?_, fun p hp => ?_⟩, h5, h6, h7⟩
  · rw [h4, roots_cons]
    by_cases e : k = root
    · subst e; rw [if_pos rfl, if_pos rfl, h.held _ hk]; omega
    · rw [if_neg e, if_neg e, h.held k hk]; omega
  · rw [e]
    rcases List.mem_cons.1 hp with rfl | hp
    · exact h.rep _ (List.mem_cons_self ..)
    · exact h.rep p hp
  · rcases List.mem_cons.1 hp with rfl | hp
    · exact h.nodup _ (List.mem_cons_self ..)
    · exact h.nodup p hp
  · rcases List.mem_cons.1 hp with rfl | hp
    · exact h.len _ (List.mem_cons_self ..)
    · exact h.len p hp
/-- A root that is let go. -/
theorem Roots.drop (h : Roots σ ((root, L) :: R)) (h0 : root ≠ 0) : (dropS σ root).2.1 = 0 ∧ Roots (dropS σ root).2.2 R ∧ Store.live (dropS σ root).2.2 ≤ Store.live σ ∧ Store.total (dropS σ root).2.2 ≤ Store.total σ ∧ (dropS σ root).2.2.room = σ.room := by
  have hh := (h.there (List.mem_cons_self ..)).resolve_left h0
  obtain ⟨g0, _, _, _, _, g5, g6, g7⟩ := dropS_spec h.good.sound hh
  exact ⟨g0, (h.step (L' := []) (dropS_step h.good hh) .nil List.nodup_nil (fun q hq => by cases hq)).less, g5, g6, g7⟩
theorem upd_fine (hn : (keysOf L).Nodup) (hl : ∀ q ∈ L, q.1.length = 32) (hk : key.length = 32) : (keysOf (upd L key bs)).Nodup ∧ ∀ p ∈ upd L key bs, p.1.length = 32 := by
  refine ⟨List.nodup_cons.2 ⟨fun hm => ?_, hn.sublist (keys_filter L _)⟩, fun p hp => ?_⟩
  · obtain ⟨p, hp, e⟩ := List.mem_map.1 hm
    have := (List.mem_filter.1 hp).2
    simp [e] at this
  · rcases List.mem_cons.1 hp with e | hp
    · rw [e]; exact hk
    · exact hl p (List.mem_filter.1 hp).1
/-- What a write does with the store. -/
structure WroteR (σ σ' : SlabSt Nd) (root r : Int) (n m : Nat) : Prop where
  step : Step σ σ' root r
  live : Store.live σ' ≤ Store.live σ + n
  total : Store.total σ' ≤ Store.total σ + m
  room : σ'.room = σ.room
theorem Put_roots (h : Ow w0 w s σ G) (D : Roots σ ((root, L) :: R)) (hk : key.length = 32) {vv : Value} (hb : Bytes w vv bs) (hv : bs ≠ [] → ∀ k, vv.ownBlock = some k → k < w.heap.size) (hl : bs.length ≤ 1024) (hroom : live σ + 258 ≤ σ.room) (htot : total σ + 600 < 1073741824) :
    Calls Tryz.prog 80 #[.pointer (some ⟨s, 0, none⟩), .int .i64 root, .agg (brow key), vv] w fun e w' => ∃ r σ', e = .returned (.tuple #[.int .i64 r, .int .i64 0]) ∧ Ow w0 w' s σ' G ∧ But G w w' ∧
      WroteR σ σ' root r 258 600 ∧ Roots σ' ((r, upd L key bs) :: R) ∧ r ≠ 0 ∧ ((key, bs) ∈ L → r = root ∧ σ' = σ) := by
  have D0 : Db σ root L := D.db (List.mem_cons_self ..)
  have hre := rootErr_hand D0.hand
  have hz := D0.good.fit.zero
  obtain ⟨l, e1, ho⟩ := On.ex (k := key) D0.rep
  have hf : fitsJ σ 1 = true := by rw [fitsJ_one, D0.good.used]; exact decide_eq_true hroom
  have hin := ins_tree (v := bs) 256 (Nat.le_refl _) (Ents.Ok.any D0.nodup D0.len key) hk
  rw [Nat.sub_self] at hin
  obtain ⟨hd1, hd2⟩ := upd_fine (bs := bs) D0.nodup D0.len hk
  by_cases hs : sameS σ key bs e1 = true
  · obtain ⟨x, hx, h1, h2, h3⟩ := sameS_end hs
    have hr0 : root ≠ 0 := fun e => by
      subst e
      obtain ⟨_, e⟩ := ho.zero hz
      rw [e, hz] at hx
      cases hx
    have hins := ho.ins_same hz D0.rep hx h1 h2
    rw [h3] at hins
    obtain ⟨F, hAt⟩ := h.at
    have hst := Step.refl D0.good root
    refine (Put_same hAt D0.good root key hk hb hl D0.hand hre hf ho hs).mono fun e w' ⟨he, ha⟩ => ⟨root, σ, he, h.adds ha, Adds.but ha, ⟨hst, Nat.le_add_right _ _, Nat.le_add_right _ _, rfl⟩, ?_, hr0, fun _ => ⟨rfl, rfl⟩⟩
    exact D.step hst (by rw [← hin, hins]; exact D0.rep) hd1 hd2
  · have hs' : sameS σ key bs e1 = false := by simpa using hs
    refine (Put_ok h D0.good root key hk hb hv hl D0.hand hre hf ho hs').mono fun e w' ⟨v, he, ho', hb'⟩ => ⟨_, _, he, ho', hb', ?_⟩
    have hc := putCost_le D0.good hk ho
    have hM := PutMid.made D0.good hk bs v hl D0.rep ho (by omega) htot
    have hP := put_spec D0.good hk bs v hl D0.rep D0.held ho (by omega) htot
    have hst : Step σ (putS σ root key bs v l e1).2 root (putS σ root key bs v l e1).1 := hM.step D0.good D0.held
    refine ⟨⟨hst, by have := hP.live; omega, by have := hP.total; omega, hP.room⟩, D.step hst (by rw [← hin]; exact hP.rep) hd1 hd2, hP.ne, fun hm => ?_⟩
    exfalso
    obtain ⟨x, hx, h1, h2, h3⟩ := On.find_tree hz 256 (Nat.le_refl _) (Ents.Ok.any D0.nodup D0.len key) hm D0.rep ho
    exact hs (sameS_of hx h1 h2 h3)
end
end Go.Proofs.YtmeglndnkdgkoaaGreat.Store
