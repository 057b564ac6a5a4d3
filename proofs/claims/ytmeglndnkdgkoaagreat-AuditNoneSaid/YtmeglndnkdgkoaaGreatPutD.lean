/- A write and what it costs; a root held once more; how many entries a root has. -/
import Derived.Test.YtmeglndnkdgkoaaGreatPutP2
namespace Go.Proofs.YtmeglndnkdgkoaaGreat.Store
open Go Go.RowKit Go.Proofs.YtmeglndnkdgkoaaGreat Go.Proofs.YtmeglndnkdgkoaaGreat.ShaW Go.Proofs.YtmeglndnkdgkoaaGreat.Path
set_option maxHeartbeats 1600000
set_option linter.unusedVariables false

theorem side_count (d : Nat) (L : Ents) : (sideE 0 d L).length + (sideE 1 d L).length = L.length := by
  unfold sideE
  induction L with
  | nil => rfl
  | cons p L ih =>
    rw [List.filter_cons, List.filter_cons]
    rcases kbit_cases p.1 d with h | h
    · simp only [h]
      simp
      omega
    · simp only [h]
      simp
      omega
theorem sides_ok {L : Ents} {k : List UInt8} {d : Nat} (hO : L.Ok k d) (b : Nat) : ∃ k', Ents.Ok (sideE b d L) k' (d + 1) := by
  match hL : sideE b d L with
  | [] => exact ⟨k, by simp [keysOf], by simp, by simp⟩
  | p :: R =>
    have hm : ∀ q ∈ sideE b d L, q ∈ L ∧ kbit q.1 d = b := fun q hq => ⟨(List.mem_filter.1 hq).1, by simpa using (List.mem_filter.1 hq).2⟩
    have hp := hm p (by rw [hL]; simp)
    refine ⟨p.1, ?_⟩
    rw [← hL]
    exact ⟨(hO.filter _).nodup, (hO.filter _).len, fun q hq => ((hO.pre q (hm q hq).1).trans (hO.pre p hp.1).symm).next (by rw [(hm q hq).2, hp.2])⟩
theorem leaves_tree : ∀ (m : Nat), m ≤ 256 → ∀ {L : Ents} {k : List UInt8}, L.Ok k (256 - m) → (tree m L).leaves = L.length := by
  intro m
  induction m with
  | zero =>
    intro _ L k hO
    have hf := hO.few
    match L, hf with
    | [], _ => rfl
    | [p], _ => rfl
    | _ :: _ :: _, hf => simp at hf
  | succ m ih =>
    intro hm L k hO
    match hL : L, hO with
    | [], _ => rfl
    | [p], _ => rfl
    | p :: q :: R, hO =>
      rw [← hL] at hO ⊢
      obtain ⟨k0, o0⟩ := sides_ok hO 0
      obtain ⟨k1, o1⟩ := sides_ok hO 1
      rw [show 256 - (m + 1) + 1 = 256 - m by omega, show 256 - (m + 1) = 255 - m by omega] at o0 o1
      rw [tree_two (by rw [hL]; simp)]
      show (tree m _).leaves + (tree m _).leaves = _
      rw [ih (by omega) o0, ih (by omega) o1, side_count]
section
variable {σ σ2 : SlabSt Nd} {root : Int} {L : Ents} {key bs : List UInt8} {s : Nat}
theorem Db.count (D : Db σ root L) : (tree 256 L).leaves = L.length := leaves_tree 256 (Nat.le_refl _) (k := []) (Ents.Ok.any D.nodup D.len [])
theorem nd_sk (h : ∀ k, sk σ2 k = sk σ k) (e : Int) : stat (nd σ2 e) = stat (nd σ e) := by
  rw [← ndF_sk, ← ndF_sk]
  unfold ndF
  rw [h]
theorem sameS_sk (h : ∀ k, sk σ2 k = sk σ k) (key bs : List UInt8) (e : Int) : sameS σ2 key bs e = sameS σ key bs e := by
  have hs := nd_sk h e
  have h1 : (nd σ2 e).kind = (nd σ e).kind := by have := congrArg Nd.kind hs; exact this
  have h2 : (nd σ2 e).key = (nd σ e).key := by have := congrArg Nd.key hs; exact this
  have h3 : (nd σ2 e).value = (nd σ e).value := by have := congrArg Nd.value hs; exact this
  unfold sameS
  rw [h1, h2, h3]
theorem putCost_sk (h : ∀ k, sk σ2 k = sk σ k) (key : List UInt8) (l : List Int) (e : Int) : putCost σ2 key l e = putCost σ key l e := by
  have hs := nd_sk h e
  have h1 : (nd σ2 e).kind = (nd σ e).kind := by have := congrArg Nd.kind hs; exact this
  have h2 : (nd σ2 e).key = (nd σ e).key := by have := congrArg Nd.key hs; exact this
  unfold putCost endCost
  rw [h1, h2]
/-- A root that is held once more. -/
theorem hold_db (D : Db σ root L) (h0 : root ≠ 0) (ht : total σ < 1073741824) :
    (holdS σ root).1 = 0 ∧ Db (holdS σ root).2 root L ∧ (∀ k, sk (holdS σ root).2 k = sk σ k) ∧ (∀ k, held (holdS σ root).2 k = if k = root then held σ root + 1 else held σ k) ∧
      live (holdS σ root).2 = live σ ∧ total (holdS σ root).2 = total σ + 1 ∧ (holdS σ root).2.room = σ.room := by
  have hh : 1 ≤ held σ root := by
    rcases D.held with h | h
    · exact absurd h h0
    · exact h
  obtain ⟨x, hx, _⟩ := held_there hh
  obtain ⟨h1, h2, h3, h4, h5, h6⟩ := holdS_spec D.good.sound hx (by have := count_le hx; omega)
  refine ⟨h1, ⟨D.good.hold root, ?_, D.nodup, D.len, .inr (by rw [h3, if_pos rfl]; omega)⟩, h2, h3, h4, h5, h6⟩
  rw [show sk (holdS σ root).2 = sk σ from funext h2]
  exact D.rep
/-- What a write costs is what Cost tells; a root that is held besides stays. -/
theorem Put_cost (D : Db σ root L) (hk : key.length = 32) (hl : bs.length ≤ 1024) : ∃ c : Nat, c ≤ 258 ∧
    (∀ {w : World} {F : Nat → Prop} {vv : Value}, At w s F σ → Bytes w vv bs → Calls Tryz.prog 78 #[.pointer (some ⟨s, 0, none⟩), .int .i64 root, .agg (brow key), vv] w fun e w' => e = .returned (.tuple #[.int .i64 (c : Int), .int .i64 0]) ∧ Adds w w') ∧
    (∀ {w0 w : World} {σ2 : SlabSt Nd} {G : Nat → Prop} {vv : Value}, (∀ k, sk σ2 k = sk σ k) → Ow w0 w s σ2 G → Db σ2 root L → Bytes w vv bs → (bs ≠ [] → ∀ k, vv.ownBlock = some k → k < w.heap.size) → live σ2 + 258 ≤ σ2.room → total σ2 + 600 < 1073741824 →
      Calls Tryz.prog 80 #[.pointer (some ⟨s, 0, none⟩), .int .i64 root, .agg (brow key), vv] w fun e w' => ∃ r σ', e = .returned (.tuple #[.int .i64 r, .int .i64 0]) ∧ Ow w0 w' s σ' G ∧ But G w w' ∧
        Wrote σ2 σ' root r c ∧ Db σ' r (upd L key bs) ∧ (2 ≤ held σ2 root → (r = root ∧ σ' = σ2) ∨ (r ≠ root ∧ sk σ' root = sk σ2 root ∧ 1 ≤ held σ' root))) := by
  obtain ⟨l, e1, ho⟩ := On.ex (k := key) D.rep
  have hz := D.good.fit.zero
  refine ⟨if sameS σ key bs e1 = true then 0 else putCost σ key l e1, ?_, ?_, ?_⟩
  · split
    · omega
    · exact putCost_le D.good hk ho
  · intro w F vv hAt hb
    refine (Cost_ok hAt D.good root key hk hb hl D.hand (rootErr_hand D.hand) ho).mono fun e w' ⟨he, ha⟩ => ⟨?_, ha⟩
    rw [he]
    split <;> rfl
  · intro w0 w σ2 G vv hsk h D2 hb hv hroom htot
    have ho2 : On (sk σ2) key root 0 l e1 := by rw [show sk σ2 = sk σ from funext hsk]; exact ho
    rw [← sameS_sk hsk, ← putCost_sk hsk]
    clear ho D
    have hz := D2.good.fit.zero
    have hre := rootErr_hand D2.hand
    have hf : fitsJ σ2 1 = true := by rw [fitsJ_one, D2.good.used]; exact decide_eq_true hroom
    have hin := ins_tree (v := bs) 256 (Nat.le_refl _) (Ents.Ok.any D2.nodup D2.len key) hk
    rw [Nat.sub_self] at hin
    have hd2 : (keysOf (upd L key bs)).Nodup ∧ ∀ p ∈ upd L key bs, p.1.length = 32 := by
      refine ⟨List.nodup_cons.2 ⟨fun hm => ?_, D2.nodup.sublist (keys_filter L _)⟩, fun p hp => ?_⟩
      · obtain ⟨p, hp, e⟩ := List.mem_map.1 hm
        have := (List.mem_filter.1 hp).2
        simp [e] at this
      · rcases List.mem_cons.1 hp with e | hp
        · rw [e]; exact hk
        · exact D2.len p (List.mem_filter.1 hp).1
    by_cases hs : sameS σ2 key bs e1 = true
    · obtain ⟨x, hx, h1, h2, h3⟩ := sameS_end hs
      have hr0 : root ≠ 0 := fun e => by
        subst e
        obtain ⟨_, e⟩ := ho2.zero hz
        rw [e, hz] at hx
        cases hx
      have hins := ho2.ins_same hz D2.rep hx h1 h2
      rw [h3] at hins
      obtain ⟨F, hAt⟩ := h.at
      refine (Put_same hAt D2.good root key hk hb hl D2.hand hre hf ho2 hs).mono fun e w' ⟨he, ha⟩ => ⟨root, σ2, he, h.adds ha, Adds.but ha, ?_, ?_, fun _ => .inl ⟨rfl, rfl⟩⟩
      · rw [if_pos hs]
        refine ⟨hr0, .inr ⟨rfl, rfl⟩, fun k hk => ?_, fun _ _ _ => ⟨rfl, rfl⟩, Nat.le_refl _, Nat.le_add_right _ _, rfl, .inl rfl, Nat.le_refl _, fun _ _ _ _ _ h => h⟩
        by_cases e : k = root
        · exact .inl e
        · exact .inr ⟨hk, fun e2 => absurd e2 e⟩
      · exact ⟨D2.good, by rw [← hin, hins]; exact D2.rep, hd2.1, hd2.2, D2.held⟩
    · have hs' : sameS σ2 key bs e1 = false := by simpa using hs
      rw [if_neg hs]
      refine (Put_ok h D2.good root key hk hb hv hl D2.hand hre hf ho2 hs').mono fun e w' ⟨v, he, ho', hb'⟩ => ⟨_, _, he, ho', hb', ?_⟩
      have hc := putCost_le D2.good hk ho2
      have hP := put_spec D2.good hk bs v hl D2.rep D2.held ho2 (by omega) htot
      refine ⟨⟨hP.ne, .inl hP.mine, hP.only, hP.others, hP.live, by have := hP.total; omega, hP.room, .inr hP.fresh, span_put σ2 root key bs v l e1, hP.keeps⟩, ⟨hP.good, by rw [← hin]; exact hP.rep, hd2.1, hd2.2, .inr (by rw [hP.mine]; omega)⟩, fun h2 => .inr ?_⟩
      obtain ⟨p, q⟩ := hP.self h2
      refine ⟨fun e => ?_, p, by omega⟩
      have hfr := hP.fresh
      rw [e] at hfr
      obtain ⟨x, hx, _⟩ := held_there (σ := σ2) (h := root) (by omega)
      rw [sk_some hx] at hfr
      cases hfr
/-- Blocks beside the store are written by the law itself. -/
theorem Ow.own {w0 w w' : World} {G : Nat → Prop} (h : Ow w0 w s σ G) (hc : Ch (fun k => G k ∧ w0.heap.size ≤ k) w w') : Ow w0 w' s σ G := by
  obtain ⟨F, h1, h2, h3, h4⟩ := h
  exact ⟨F, h1.keep hc (fun k hk hg => (h4 k hg.1).1 hk), h2, h3.trans hc (fun k hk => .inr hk.2), fun k hk => ⟨(h4 k hk).1, Nat.lt_of_lt_of_le (h4 k hk).2 hc.size⟩⟩
end
end Go.Proofs.YtmeglndnkdgkoaaGreat.Store
