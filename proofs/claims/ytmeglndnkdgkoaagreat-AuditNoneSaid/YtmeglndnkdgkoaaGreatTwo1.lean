/- Proved contracts and plain laws of the layers below, several parts in one text. -/
import Derived.Test.YtmeglndnkdgkoaaGreatAud1
import Derived.Test.YtmeglndnkdgkoaaGreatPutP2
import Derived.Test.YtmeglndnkdgkoaaGreatAwake9
import Derived.Deep.OwnRows
/- Layer 12's statements: a store with a root of two leaves, plainly: what is wanted there. -/
namespace Go.Proofs.YtmeglndnkdgkoaaGreat.Store
open Go Go.RowKit Go.Proofs.YtmeglndnkdgkoaaGreat Go.Proofs.YtmeglndnkdgkoaaGreat.ShaW Go.Proofs.YtmeglndnkdgkoaaGreat.Path
set_option maxHeartbeats 800000
set_option linter.unusedVariables false

theorem count_get {σ : SlabSt Nd} {h : Int} {x : Nd × Nat} (hx : σ.get? h = some x) : σ.count h = x.2 := by unfold SlabSt.count; rw [hx]; rfl
theorem Rep.leaf_inv {f : View} {h : Int} {d : Nat} {k v : List UInt8} (hr : Rep f h d (.leaf k v)) : ∃ n, f h = some n ∧ n.kind = 1 ∧ n.key = k ∧ n.value = v := by
  generalize ht : Tr.leaf k v = t at hr
  cases hr with
  | nil => cases ht
  | leaf hn hk => injection ht with e1 e2; exact ⟨_, hn, hk, e1.symm, e2.symm⟩
  | node _ _ _ _ _ => cases ht
theorem Rep.node_inv {f : View} {h : Int} {d : Nat} {l r : Tr} (hr : Rep f h d (.node l r)) : ∃ n, f h = some n ∧ n.kind = 2 ∧ Rep f n.left (d + 1) l ∧ Rep f n.right (d + 1) r := by
  generalize ht : Tr.node l r = t at hr
  cases hr with
  | nil => cases ht
  | leaf _ _ => cases ht
  | node hn hk _ h1 h2 => injection ht with e1 e2; subst e1 e2; exact ⟨_, hn, hk, h1, h2⟩
def L2 : Ents := upd (upd [] (keyL 0) []) (keyL 128) []
theorem tree_L2 : tree 256 L2 = .node (.leaf (keyL 0) []) (.leaf (keyL 128) []) := by
  have h := ins_tree (L := upd [] (keyL 0) []) (k := keyL 128) (v := []) 256 (Nat.le_refl _) ⟨by decide, by decide, fun _ _ _ h => absurd h (Nat.not_lt_zero _)⟩ rfl
  have h2 : ins (keyL 128) [] (256 - 256) (tree 256 (upd [] (keyL 0) [])) = .node (.leaf (keyL 0) []) (.leaf (keyL 128) []) := by kernel_rfl
  exact h.symm.trans h2
structure TwoS (σ : SlabSt Nd) (r : Int) : Prop where
  db : Db σ r L2
  sole : Sole σ r
  live : Store.live σ = 3
  span : σ.slots.length ≤ 516
  ne : r ≠ 0
theorem sum_one {f : Nat → Nat} {r : Nat} : ∀ {l : List Nat}, l.Nodup → (∀ x ∈ l, x ≠ r → f x = 0) → (l.map f).sum ≤ f r
  | [], _, _ => by simp
  | a :: l, hn, h => by
    obtain ⟨h1, h2⟩ := List.nodup_cons.1 hn
    simp only [List.map_cons, List.sum_cons]
    by_cases e : a = r
    · subst e
      have : (l.map f).sum = 0 := sum_zero _ fun x hx => by
        obtain ⟨y, hy, rfl⟩ := List.mem_map.1 hx
        exact h y (List.mem_cons_of_mem _ hy) (fun e => h1 (e ▸ hy))
      omega
    · have := sum_one h2 (fun x hx => h x (List.mem_cons_of_mem _ hx))
      rw [h a (List.mem_cons_self ..) e]
      omega
section
variable {σ : SlabSt Nd} {r : Int}
theorem TwoS.held (T : TwoS σ r) : Store.held σ r = 1 := (T.sole r (T.db.held.resolve_left T.ne)).2
theorem TwoS.held' (T : TwoS σ r) {h : Int} (hh : h ≠ r) : Store.held σ h = 0 := by
  have h1 := held_nonneg T.db.good.sound h
  by_cases e : 1 ≤ Store.held σ h
  · exact absurd (T.sole h e).1 hh
  · omega
theorem TwoS.heldR (T : TwoS σ r) (h : Int) : Store.held σ h = if h = r then 1 else 0 := by
  by_cases e : h = r
  · rw [if_pos e, e]; exact T.held
  · rw [if_neg e]; exact T.held' e
/-- The three nodes. -/
theorem TwoS.nodes (T : TwoS σ r) : ∃ a b, (nd σ r).left = a ∧ (nd σ r).right = b ∧ a ≠ r ∧ b ≠ r ∧ a ≠ b ∧ ∀ h x, σ.get? h = some x → h = r ∨ ((h = a ∨ h = b) ∧ (nd σ h).left = 0 ∧ (nd σ h).right = 0) := by
  have hr := T.db.rep
  rw [tree_L2] at hr
  obtain ⟨n, hn, hk, hl, hrr⟩ := hr.node_inv
  obtain ⟨na, ha, ka, kka, _⟩ := hl.leaf_inv
  obtain ⟨nb, hb, kb, kkb, _⟩ := hrr.leaf_inv
  obtain ⟨xr, hxr, rfl⟩ := sk_get hn
  obtain ⟨xa, hxa, rfl⟩ := sk_get ha
  obtain ⟨xb, hxb, rfl⟩ := sk_get hb
  have la := (T.db.good.fit.leaf ha (by omega)).2
  have lb := (T.db.good.fit.leaf hb (by omega)).2
  have hne : (stat xr.1).left ≠ (stat xr.1).right := fun e => by
    rw [e, hxb] at hxa
    cases hxa
    rw [kka] at kkb
    exact absurd kkb (by decide +kernel)
  have h1 : (stat xr.1).left ≠ r := fun e => by rw [e, hxr] at hxa; cases hxa; omega
  have h2 : (stat xr.1).right ≠ r := fun e => by rw [e, hxr] at hxb; cases hxb; omega
  refine ⟨(stat xr.1).left, (stat xr.1).right, by rw [nd_some hxr]; rfl, by rw [nd_some hxr]; rfl, h1, h2, hne, fun h x hx => ?_⟩
  by_cases e1 : h = r
  · exact .inl e1
  · refine .inr ?_
    by_cases e2 : h = (stat xr.1).left
    · subst e2; exact ⟨.inl rfl, by rw [nd_some hxa]; exact la.left, by rw [nd_some hxa]; exact la.right⟩
    · by_cases e3 : h = (stat xr.1).right
      · subst e3; exact ⟨.inr rfl, by rw [nd_some hxb]; exact lb.left, by rw [nd_some hxb]; exact lb.right⟩
      · exfalso
        have := nodup_len (σ := σ) (l := [h, r, (stat xr.1).left, (stat xr.1).right]) (by simp [e1, e2, e3, h1.symm, h2.symm, hne]) (fun y hy => by
          simp only [List.mem_cons, List.not_mem_nil, or_false] at hy
          rcases hy with rfl | rfl | rfl | rfl
          · exact has_some hx
          · exact has_some hxr
          · exact has_some hxa
          · exact has_some hxb)
        rw [handles_length, T.live] at this
        simp at this
theorem TwoS.count (T : TwoS σ r) {h : Int} {x : Nd × Nat} (hx : σ.get? h = some x) : σ.count h = 1 := by
  obtain ⟨a, b, ea, eb, har, hbr, hab, hall⟩ := T.nodes
  have h0 := get_ne hx
  have hc := T.db.good.sound.counts h x hx
  rw [count_get hx]
  have hne : x.2 ≠ 0 := by obtain ⟨_, _, _, h0, _⟩ := SlabSt.get?_some hx; exact h0
  have hs : sides σ h ≤ refs (nd σ r) h := by
    rw [← sides_handles h]
    obtain ⟨xr, hxr, _⟩ := held_there (σ := σ) (h := r) (by rw [T.held]; omega)
    obtain ⟨m, hm, e⟩ := (mem_handles r).1 ⟨xr, hxr⟩
    rw [e]
    refine sum_one handles_nodup fun y hy hne => ?_
    obtain ⟨z, hz⟩ := (mem_handles (y : Int)).2 ⟨y, hy, rfl⟩
    rcases hall y z hz with e2 | ⟨_, h1, h2⟩
    · exact absurd (Int.ofNat_inj.1 (e2.trans e)) hne
    · unfold refs
      rw [h1, h2, if_neg (Ne.symm h0)]
  have hr : refs (nd σ r) h ≤ (if h = r then 0 else 1) := by
    unfold refs
    rw [ea, eb]
    by_cases e : h = r
    · rw [if_neg (by omega), if_neg (by omega)]; simp
    · rw [if_neg e]
      by_cases e1 : a = h
      · rw [if_pos e1, if_neg (by omega)]; omega
      · rw [if_neg e1]; split <;> omega
  have hh := T.heldR h
  rw [held_some hx] at hh
  simp only [List.count_nil] at hc
  split at hr <;> split at hh <;> omega
/-- How often a node is wanted. -/
theorem TwoS.cnt (T : TwoS σ r) {R : List Int} {k : Wk} (H : Wanting σ R k.todo.length k) (hR : r ∈ R) {h : Int} {x : Nd × Nat} (hx : σ.get? h = some x) : k.cnt h + (if h = r then 1 else 0) = R.count h + 1 := by
  have h1 := H.count T.db.good (fun p hp => by rw [(T.sole p hp).1]; exact hR) hx
  rw [T.heldR] at h1
  have h2 := T.count hx
  rw [count_get hx] at h2
  by_cases e : h = r
  · rw [if_pos e] at h1 ⊢; omega
  · rw [if_neg e] at h1 ⊢; omega
theorem filterMap_one {α β : Type} {g : α → Option β} {m : α} {y : β} : ∀ {l : List α}, l.Nodup → m ∈ l → g m = some y → (∀ x ∈ l, x ≠ m → g x = none) → l.filterMap g = [y]
  | a :: l, hn, hm, hy, h => by
    obtain ⟨h1, h2⟩ := List.nodup_cons.1 hn
    rcases List.mem_cons.1 hm with rfl | hm
    · rw [List.filterMap_cons_some hy, List.filterMap_eq_nil_iff.2 (fun x hx => h x (List.mem_cons_of_mem _ hx) (fun e => h1 (e ▸ hx)))]
    · rw [List.filterMap_cons_none (h a (List.mem_cons_self ..) (fun e => h1 (e ▸ hm)))]
      exact filterMap_one h2 hm hy (fun x hx => h x (List.mem_cons_of_mem _ hx))
theorem filter_one {α : Type} {p : α → Bool} {m : α} : ∀ {l : List α}, l.Nodup → m ∈ l → p m = true → (∀ x ∈ l, x ≠ m → p x = false) → l.filter p = [m]
  | a :: l, hn, hm, hy, h => by
    obtain ⟨h1, h2⟩ := List.nodup_cons.1 hn
    rcases List.mem_cons.1 hm with rfl | hm
    · rw [List.filter_cons_of_pos hy, List.filter_eq_nil_iff.2 (fun x hx => by rw [h x (List.mem_cons_of_mem _ hx) (fun e => h1 (e ▸ hx))]; simp)]
    · rw [List.filter_cons_of_neg (by rw [h a (List.mem_cons_self ..) (fun e => h1 (e ▸ hm))]; simp)]
      exact filter_one h2 hm hy (fun x hx => h x (List.mem_cons_of_mem _ hx))
theorem TwoS.there (T : TwoS σ r) : ∃ x, σ.get? r = some x := by
  obtain ⟨xr, hxr, _⟩ := held_there (σ := σ) (h := r) (by rw [T.held]; omega)
  exact ⟨xr, hxr⟩
theorem TwoS.len (T : TwoS σ r) {R : List Int} {k : Wk} (H : Wanting σ R k.todo.length k) (hR : r ∈ R) : k.todo.length = 3 := by
  have h1 := H.ed.len
  have h2 := nodup_length_int ((handles σ).map fun n : Nat => (n : Int)) k.todo (List.Pairwise.map _ (fun a b h e => h (Int.ofNat_inj.1 e)) handles_nodup) (fun y hy => by
    obtain ⟨m, hm, e⟩ := List.mem_map.1 hy
    obtain ⟨z, hz⟩ := (mem_handles y).2 ⟨m, hm, e.symm⟩
    exact H.full T.db.good (fun p hp => by rw [(T.sole p hp).1]; exact hR) hz)
  rw [List.length_map] at h2
  have h3 := handles_length (σ := σ)
  rw [T.live] at h3
  omega
theorem TwoS.one (T : TwoS σ r) {R : List Int} {k : Wk} (H : Wanting σ R k.todo.length k) (hR : ∀ h, h ≠ 0 → R.count h = if h = r then 1 else 0) : finds σ k.cnt = [] ∧ lostL k.cnt (handles σ) = [] ∧ k.todo.length = 3 := by
  have hr : r ∈ R := List.count_pos_iff.1 (by rw [hR r T.ne, if_pos rfl]; omega)
  have hall : ∀ m ∈ handles σ, k.cnt (m : Int) = 1 ∧ σ.count (m : Int) = 1 := fun m hm => by
    obtain ⟨x, hx⟩ := (mem_handles (m : Int)).2 ⟨m, hm, rfl⟩
    have h1 := T.cnt H hr hx
    rw [hR _ (get_ne hx)] at h1
    exact ⟨by omega, T.count hx⟩
  refine ⟨?_, ?_, T.len H hr⟩
  · unfold finds findsL
    refine List.filterMap_eq_nil_iff.2 fun m hm => ?_
    obtain ⟨h1, h2⟩ := hall m hm
    rw [if_pos (by rw [h1, h2])]
  · unfold lostL
    rw [List.filter_eq_nil_iff.2 fun m hm => by rw [(hall m hm).1]; simp]
    rfl
theorem TwoS.two (T : TwoS σ r) {k : Wk} (H : Wanting σ [r, r] k.todo.length k) : finds σ k.cnt = [(r, 2, 1)] ∧ (k.todo.filter fun x => decide (1 < k.cnt x)).length = 1 := by
  have hc : ∀ h x, σ.get? h = some x → k.cnt h = if h = r then 2 else 1 := fun h x hx => by
    have h1 := T.cnt H (List.mem_cons_self ..) hx
    have h2 : List.count h [r, r] = if h = r then 2 else 0 := by
      by_cases e : h = r
      · subst e; simp
      · rw [if_neg e]; simp [Ne.symm e]
    rw [h2] at h1
    by_cases e : h = r
    · rw [if_pos e] at h1 ⊢; rw [if_pos e] at h1; omega
    · rw [if_neg e] at h1 ⊢; rw [if_neg e] at h1; omega
  obtain ⟨xr, hxr⟩ := T.there
  obtain ⟨m, hm, e⟩ := (mem_handles r).1 ⟨xr, hxr⟩
  refine ⟨?_, ?_⟩
  · unfold finds findsL
    refine filterMap_one (m := m) handles_nodup hm ?_ fun y hy hne => ?_
    · rw [← e, hc r xr hxr, T.count hxr, if_pos rfl]; rfl
    · obtain ⟨z, hz⟩ := (mem_handles (y : Int)).2 ⟨y, hy, rfl⟩
      have hyr : ¬ ((y : Int) = r) := by rw [e]; exact fun h => hne (Int.ofNat_inj.1 h)
      have h1 := hc _ z hz
      rw [if_neg hyr] at h1
      rw [h1, T.count hz, if_pos rfl]
  · rw [filter_one (m := r) H.nodup (H.full T.db.good (fun p hp => by rw [(T.sole p hp).1]; exact List.mem_cons_self ..) hxr) (by rw [hc r xr hxr, if_pos rfl]; rfl) (fun y hy hne => by
      obtain ⟨z, hz⟩ := has_get (H.there y hy)
      rw [hc y z hz, if_neg hne]; rfl)]
    rfl
theorem Fro.none {h : Int} (hf : Fro σ [] h) : False := by
  induction hf with
  | root h1 _ => cases h1
  | left _ _ ih => exact ih
  | right _ _ ih => exact ih
theorem TwoS.nil (T : TwoS σ r) {k : Wk} (H : Wanting σ [] k.todo.length k) : ∃ h1 l, finds σ k.cnt = (h1, 0, 1) :: l ∧ l.length = 2 := by
  have ht : k.todo = [] := List.eq_nil_iff_forall_not_mem.2 fun y hy => (H.fro y hy).none
  have hc : ∀ h, k.cnt h = 0 := fun h => by
    have := H.mem h
    rw [ht] at this
    simp at this
    omega
  have h3 : (handles σ).length = 3 := by rw [handles_length, T.live]
  have hf : finds σ k.cnt = (handles σ).map fun m : Nat => ((m : Int), (0 : Int), (1 : Int)) := by
    unfold finds findsL
    have : ∀ l : List Nat, (∀ m ∈ l, m ∈ handles σ) → (l.filterMap fun h : Nat => if ((σ.count (h : Int) : Nat) : Int) = (k.cnt (h : Int) : Nat) then none else some ((h : Int), ((k.cnt (h : Int) : Nat) : Int), ((σ.count (h : Int) : Nat) : Int))) = l.map fun m : Nat => ((m : Int), (0 : Int), (1 : Int)) := by
      intro l
      induction l with
      | nil => intro _; rfl
      | cons a l ih =>
        intro hl
        obtain ⟨z, hz⟩ := (mem_handles (a : Int)).2 ⟨a, hl a (List.mem_cons_self ..), rfl⟩
        rw [List.filterMap_cons_some (b := ((a : Int), (0 : Int), (1 : Int))) (by rw [hc, T.count hz]; rfl), ih (fun m hm => hl m (List.mem_cons_of_mem _ hm))]
        rfl
    exact this _ (fun _ h => h)
  rw [hf]
  match handles σ, h3 with
  | [a, b, c], _ => exact ⟨_, _, rfl, rfl⟩
end
end Go.Proofs.YtmeglndnkdgkoaaGreat.Store

/- Layer 12's statements: the store of two leaves, made; what the document's examples say. -/
namespace Go.Proofs.YtmeglndnkdgkoaaGreat.Law12
open Go Go.RowKit Go.Proofs.YtmeglndnkdgkoaaGreat Go.Proofs.YtmeglndnkdgkoaaGreat.ShaW Go.Proofs.YtmeglndnkdgkoaaGreat.Path Go.Proofs.YtmeglndnkdgkoaaGreat.Store Go.Proofs.YtmeglndnkdgkoaaGreat.Law9
set_option maxHeartbeats 3200000
set_option linter.unusedVariables false

set_option maxRecDepth 100000 in
theorem two_ok (w : World) : Calls Tryz.prog 58 #[] w fun e w' => ∃ s σ r, e = .returned (.tuple #[.pointer (some ⟨s, 0, none⟩), .int .i64 r]) ∧ TwoS σ r ∧ Ow w w' s σ (fun _ => False) := by
  obtain ⟨K0, hK0⟩ : ∃ K, K = brow (keyL 0) := ⟨_, rfl⟩
  obtain ⟨K1, hK1⟩ : ∃ K, K = brow (keyL 128) := ⟨_, rfl⟩
  have hb0 := key_built
  have hb1 := key_built1
  rw [← hK0] at hb0
  rw [← hK1] at hb1
  have HB0 := Lib.hid hb0
  have HB1 := Lib.hid hb1
  have HK0 := Lib.hid hK0
  have HK1 := Lib.hid hK1
  clear hb0 hb1 hK0 hK1
  go_enter Tryz.func58, Tryz.ntmps58
  go_wp2_with fail
  refine (New_own 600 w (by decide) (by decide)).mono ?_; rintro e w1 ⟨s, rfl, h1⟩
  have D0 := Db.new 600 (by decide) (by decide)
  have hp := Put_db (h1.ow.less (G' := fun _ => False) (fun _ h => h.elim)) D0 (key := keyL 0) (bs := []) rfl (Bytes.nil _) (fun h => absurd rfl h) (by simp) (by decide) (by decide)
  rw [← HK0.out] at hp
  have HP := Lib.hid hp
  clear hp h1
  go_wp2_with (first
    | fail
    | ((with_reducible show wpList _ _ _ (⟨_, .build 31 #[], _, _, _, _⟩ :: _) _ _); refine wpList_build_none rfl 31 rfl K0 HB0.out ?_)
    | ((with_reducible show wpList _ _ _ (⟨_, .build 31 _, _, _, _, _⟩ :: _) _ _); refine wpList_build_one rfl 31 0 _ rfl (.int .u8 128) rfl K1 HB1.out ?_))
  refine HP.out.mono ?_; rintro e w2 ⟨r1, σ1, rfl, o2, b2, W2, D2, _⟩
  have S2 := W2.sole (Sole.new 600 0)
  have hu1 : live σ1 = 1 := by rw [D2.live S2, tree1.1]
  have hl1 : live σ1 + 258 ≤ σ1.room := by rw [hu1, W2.room]; decide
  have ht1 : total σ1 + 600 < 1073741824 := by have := W2.total; rw [show total (⟨600, [], []⟩ : SlabSt Nd) = 0 from rfl] at this; omega
  have hsp1 : σ1.slots.length ≤ 258 := by have := W2.span; simpa using this
  have hp := Put_db o2 D2 (key := keyL 128) (bs := []) rfl (Bytes.nil _) (fun h => absurd rfl h) (by simp) hl1 ht1
  rw [← HK1.out] at hp
  have HP2 := Lib.hid hp
  have HS2 := Lib.hid (And.intro S2 hsp1)
  clear hp o2 b2 W2 HP S2 hl1 ht1 hu1 D2 D0 hsp1
  go_wp2_with (first
    | fail
    | ((with_reducible show wpList _ _ _ (⟨_, .build 31 #[], _, _, _, _⟩ :: _) _ _); refine wpList_build_none rfl 31 rfl K0 HB0.out ?_)
    | ((with_reducible show wpList _ _ _ (⟨_, .build 31 _, _, _, _, _⟩ :: _) _ _); refine wpList_build_one rfl 31 0 _ rfl (.int .u8 128) rfl K1 HB1.out ?_))
  refine HP2.out.mono ?_; rintro e w5 ⟨r2, σ2, rfl, o5, b5, W5, D5, _⟩
  have S5 := W5.sole HS2.out.1
  have hT : TwoS σ2 r2 := ⟨D5, S5, by rw [D5.live S5]; exact tree2.1, by have := W5.span; have := HS2.out.2; omega, W5.ne⟩
  have HT := Lib.hid (And.intro hT o5)
  clear o5 b5 W5 D5 S5 hT HP2
  go_wp2
  go_ret2
  exact ⟨s, σ2, r2, rfl, HT.out.1, HT.out.2⟩
/-- A store of two leaves at hand. -/
structure At2 (w0 w : World) (s : Nat) (r : Int) : Prop where
  ex : ∃ σ F, At w s F σ ∧ TwoS σ r
section
variable {w0 w w1 : World} {s : Nat} {r : Int}
theorem At2.adds (h : At2 w0 w s r) (a : Adds w w1) : At2 w0 w1 s r := by
  obtain ⟨σ, F, h1, h2⟩ := h.ex
  exact ⟨σ, F, h1.adds a, h2⟩
theorem chk_roots {σ : SlabSt Nd} (T : TwoS σ r) {R : List Int} (hl : R.length ≤ 64) (hR : ∀ x ∈ R, x = r ∨ x = 0) : chk σ R = 0 := by
  unfold chk
  rw [if_neg (by omega)]
  refine rerr_zero.2 fun x hx => ?_
  rcases hR x hx with rfl | rfl
  · exact rootErr_hand T.db.hand
  · rfl
/-- Ints at a new block. -/
theorem ints_new (w : World) (l : List Int) : IntsAt (w.alloc (.cells (intL l).toArray 3)) (some ⟨w.heap.size, 0, none⟩) l := fun i x hx => by
  refine ⟨_, _, rfl, ?_⟩
  rw [Nat.zero_add]
  refine row_cell (heap_alloc_new w _) ?_
  simp [intL, hx]
theorem At2.chk1 (h : At2 w0 w s r) {ao : Option Addr} {R : List Int} (cap : Nat) (hR : IntsAt w ao R) (hl : R.length ≤ 64) (h2 : ∀ x ∈ R, x = r ∨ x = 0) (hc : R.count r = 1) :
    Calls Tryz.prog 42 #[.pointer (some ⟨s, 0, none⟩), .slice ao R.length cap] w fun e w' => ∃ qo qc, e = .returned (.tuple #[.slice qo 0 qc, .int .i64 0]) ∧ Adds w w' := by
  obtain ⟨σ, F, hF, T⟩ := h.ex
  refine (Check_good hF T.db.good cap hR (chk_roots T hl h2)).mono ?_
  rintro e w' ⟨v, k, rfl, hk, hown, a⟩
  have hf := (T.one hk (fun x hx => by
    by_cases e : x = r
    · rw [if_pos e, e, hc]
    · rw [if_neg e]
      refine List.count_eq_zero.2 fun hm => ?_
      rcases h2 x hm with h | h
      · exact e h
      · exact hx h)).1
  rw [hf] at hown
  obtain ⟨qo, qc, rfl⟩ := owns_form hown
  exact ⟨qo, qc, rfl, a⟩
theorem At2.chk0 (h : At2 w0 w s r) :
    Calls Tryz.prog 42 #[.pointer (some ⟨s, 0, none⟩), .slice none 0 0] w fun e w' => ∃ g qc cur, e = .returned (.tuple #[.slice (some ⟨g, 0, none⟩) 3 qc, .int .i64 0]) ∧ w'.heap[g]? = some (.cells cur 103 (0, 0)) ∧ cur[1]? = some (.int .i64 0) ∧ cur[2]? = some (.int .i64 1) ∧ 3 ≤ qc ∧ w.heap.size ≤ g ∧ Adds w w' := by
  obtain ⟨σ, F, hF, T⟩ := h.ex
  refine (Check_good (R := []) hF T.db.good 0 (IntsAt.nil w none) (chk_roots T (by simp) (fun x hx => by cases hx))).mono ?_
  rintro e w' ⟨v, k, rfl, hk, hown, a⟩
  obtain ⟨h1, l, hf, hl⟩ := T.nil hk
  rw [hf] at hown
  rw [show ((h1, (0 : Int), (1 : Int)) :: l).length = 3 by simp [hl]] at hown
  obtain ⟨g, cap, cur, rfl, hg, q1, q2, q3, q4⟩ := owns_block hown (by omega)
  refine ⟨g, cap, cur, rfl, hg, ?_, ?_, q1, (hown.lt g rfl).1, a⟩
  · exact take_get q4 (by simp [fdL])
  · exact take_get q4 (by simp [fdL])
theorem At2.chk2 (h : At2 w0 w s r) {ao : Option Addr} (cap : Nat) (hR : IntsAt w ao [r, r]) :
    Calls Tryz.prog 42 #[.pointer (some ⟨s, 0, none⟩), .slice ao 2 cap] w fun e w' => ∃ g qc cur, e = .returned (.tuple #[.slice (some ⟨g, 0, none⟩) 1 qc, .int .i64 0]) ∧ w'.heap[g]? = some (.cells cur 103 (0, 0)) ∧ 3 ≤ cur.size ∧ cur.extract 0 (0 + 3) = #[.int .i64 r, .int .i64 2, .int .i64 1] ∧ 1 ≤ qc ∧ w.heap.size ≤ g ∧ Adds w w' := by
  obtain ⟨σ, F, hF, T⟩ := h.ex
  refine (Check_good (R := [r, r]) hF T.db.good cap hR (chk_roots T (by simp) (fun x hx => by simp at hx; exact .inl hx))).mono ?_
  rintro e w' ⟨v, k, rfl, hk, hown, a⟩
  rw [(T.two hk).1] at hown
  obtain ⟨g, cap', cur, rfl, hg, q1, q2, q3, q4⟩ := owns_block hown (by simp)
  have hc : 3 ≤ cur.size := by rw [q3]; simp only [List.length_singleton] at q1; omega
  refine ⟨g, cap', cur, rfl, hg, hc, ?_, q1, (hown.lt g rfl).1, a⟩
  apply Array.ext'
  simp only [Array.toList_extract, List.extract, List.drop_zero]
  have : cur.toList.take (1 * 3) = [.int .i64 r, .int .i64 2, .int .i64 1] := q4
  simpa using this
end
end Go.Proofs.YtmeglndnkdgkoaaGreat.Law12

/- Layer 12's statements: what the document's examples say: the walk. -/
namespace Go.Proofs.YtmeglndnkdgkoaaGreat.Law12
open Go Go.RowKit Go.Proofs.YtmeglndnkdgkoaaGreat Go.Proofs.YtmeglndnkdgkoaaGreat.ShaW Go.Proofs.YtmeglndnkdgkoaaGreat.Path Go.Proofs.YtmeglndnkdgkoaaGreat.Store Go.Proofs.YtmeglndnkdgkoaaGreat.Law9
set_option maxHeartbeats 6400000
set_option linter.unusedVariables false

theorem sizeFd : (Tryz.prog.info? 103).map (·.size) = some 3 := by kernel_rfl
set_option maxRecDepth 100000 in
theorem awake_ok (w : World) : Calls Tryz.prog 49 #[] w fun e w' => e = .returned (.bool true) ∧ Adds w w' := by
  go_enter Tryz.func49, Tryz.ntmps49
  go_wp2_with fail
  refine (two_ok w).mono ?_; rintro e w1 ⟨s, σ, r, rfl, hT, hO⟩
  obtain ⟨F, hF⟩ := hO.at
  have h1 : At2 w w1 s r := ⟨σ, F, hF, hT⟩
  have H1 := Lib.hid h1
  have A1 := Lib.hid hO.world
  have hc1 := (h1.adds ((Ch.refl _ w1).alloc (.cells (intL [r]).toArray 3))).chk1 1 (ints_new w1 [r]) (by simp) (fun x hx => by simp at hx; exact .inl hx) (by simp)
  have HC1 := Lib.hid hc1
  clear h1 hF hT hO hc1
  go_wp2_with fail
  refine HC1.out.mono ?_; rintro e w2 ⟨qo, qc, rfl, a2⟩
  have A2 := Lib.hid (((Ch.refl (fun _ => False) w1).alloc (.cells (intL [r]).toArray 3)).trans a2 (fun _ h => h.elim))
  have HC2 := Lib.hid (H1.out.adds A2.out).chk0
  clear a2 HC1
  go_wp2_with fail
  refine HC2.out.mono ?_; rintro e w3 ⟨g3, qc3, cur3, rfl, r3, c31, c32, hq3, hg3, a3⟩
  have A3 := Lib.hid (A2.out.trans a3 (fun _ h => h.elim))
  have R3 := Lib.hid (And.intro r3 (And.intro c31 (And.intro c32 hq3)))
  have hc3 := ((H1.out.adds A3.out).adds ((Ch.refl _ w3).alloc (.cells (intL [r, r]).toArray 3))).chk2 2 (ints_new w3 [r, r])
  have HC3 := Lib.hid hc3
  clear r3 c31 c32 hq3 a3 hc3 HC2
  go_wp2_with fail
  refine HC3.out.mono ?_; rintro e w4 ⟨g4, qc4, cur4, rfl, r4, cs4, ce4, hq4, hg4, a4⟩
  have a34 : Adds w3 w4 := ((Ch.refl (fun _ => False) w3).alloc (.cells (intL [r, r]).toArray 3)).trans a4 (fun _ h => h.elim)
  have A4 := Lib.hid (A3.out.trans a34 (fun _ h => h.elim))
  have r34 := a34.row R3.out.1 id
  have c31 := row_cell r34 R3.out.2.1
  have c32 := row_cell r34 R3.out.2.2.1
  have hq3 := R3.out.2.2.2
  have R4 := Lib.hid (And.intro r4 (And.intro cs4 ce4))
  clear a4 a34 HC3 r34 r4 cs4 ce4
  go_wp2_with (first
    | fail
    | ((with_reducible show wpList _ _ _ (⟨_, .load 103 _, _, _, _, _⟩ :: _) _ _); refine wpList_gload_part (by first | rfl | (simp [Region.wanted]; done)) 103 _ rfl g4 0 rfl R4.out.1 Tryz.underlying103 rfl sizeFd (by have := R4.out.2.1; omega) #[.int .i64 r, .int .i64 2, .int .i64 1] R4.out.2.2 ?_))
  go_ret
  exact ⟨rfl, A1.out.trans A4.out (fun _ h => h.elim)⟩
end Go.Proofs.YtmeglndnkdgkoaaGreat.Law12
