/- How many nodes a delete makes: drop.Cost. -/
import Derived.Test.YtpeebeebakjpdaaGreatDropA1
namespace Go.Proofs.YtpeebeebakjpdaaGreat.Store
open Go Go.RowKit Go.Proofs.YtpeebeebakjpdaaGreat Go.Proofs.YtpeebeebakjpdaaGreat.ShaW Go.Proofs.YtpeebeebakjpdaaGreat.Path
set_option maxHeartbeats 3200000
set_option linter.unusedVariables false

section
variable {w0 w : World} {s : Nat} {σ : SlabSt Nd} {F G : Nat → Prop} {root : Int} {t : Tr} {L : Ents} {key : List UInt8} {l : List Int} {e : Int}
def Tr.isNil : Tr → Bool
  | .nil => true
  | _ => false
def lookedF (d n : Nat) (T u : Tr) : Nat :=
  if n ≠ 0 then n else if u.isNil = true then 0 else if T.isNil = true ∧ u.isNode = false then 0 else d + 1
/-- How many nodes of the way are made anew. -/
def looked (k : List UInt8) : Nat → Tr → Nat
  | _, .nil => 0
  | _, .leaf _ _ => 0
  | d, .node a b => if kbit k d = 0 then lookedF d (looked k (d + 1) a) (delT k (d + 1) a) b else lookedF d (looked k (d + 1) b) (delT k (d + 1) b) a
theorem looked_node (k : List UInt8) (d : Nat) (a b : Tr) : looked k d (.node a b) = lookedF d (looked k (d + 1) (if kbit k d = 0 then a else b)) (delT k (d + 1) (if kbit k d = 0 then a else b)) (if kbit k d = 0 then b else a) := by
  conv => lhs; unfold looked
  by_cases hb : kbit k d = 0
  · rw [if_pos hb, if_pos hb, if_pos hb]
  · rw [if_neg hb, if_neg hb, if_neg hb]
/-- What stops the look below stops it above. -/
theorem looked_up (G : Good σ) (ht : Rep (sk σ) root 0 t) (ho : On (sk σ) key root 0 l e) : ∀ (m : Nat), m ≤ l.length → ∀ {c : Int} {tm : Tr}, On (sk σ) key c m (l.drop m) e → Rep (sk σ) c m tm → looked key m tm ≠ 0 → looked key 0 t = looked key m tm := by
  have hz := G.fit.zero
  intro m
  induction m with
  | zero =>
    intro _ c tm hon hrep hS
    have hc : c = root := by rw [List.drop_zero] at hon; exact hon.same ho
    subst hc
    rw [← ht.det hz hrep]
  | succ m ih =>
    intro hm c tm hon hrep hS
    obtain ⟨h, x, tl, tr, L⟩ := level G ht ho (show m < l.length by omega)
    have hc := hon.same L.own
    subst hc
    have hrown : Rep (sk σ) (if kbit key m = 0 then x.left else x.right) (m + 1) (if kbit key m = 0 then tl else tr) := by
      have h1 := L.left
      have h2 := L.right
      split <;> assumption
    have htm := hrep.det hz hrown
    rw [htm] at hS ⊢
    have hrepm : Rep (sk σ) h m (.node tl tr) := .node L.there L.kind L.depth L.left L.right
    have honm : On (sk σ) key h m (l.drop m) e := by
      obtain ⟨hlt, hh⟩ := List.getElem?_eq_some_iff.1 L.at_
      rw [List.drop_eq_getElem_cons hlt, hh]
      exact .step L.there L.kind L.depth L.own
    have hn : looked key m (.node tl tr) = looked key (m + 1) (if kbit key m = 0 then tl else tr) := by
      rw [looked_node, lookedF, if_pos hS]
    rw [ih (by omega) honm hrepm (by rw [hn]; exact hS), hn]
theorem lookL_looked (G : Good σ) (ht : Rep (sk σ) root 0 t) (ho : On (sk σ) key root 0 l e) : ∀ (m : Nat), m ≤ l.length → ∀ {c : Int} {tm : Tr} {st : Int}, On (sk σ) key c m (l.drop m) e → Rep (sk σ) c m tm → Stay (sk σ) key m st (delT key m tm) → looked key m tm = 0 →
    (lookL σ key l m st).2.1 + 1 = (looked key 0 t : Nat) := by
  have hz := G.fit.zero
  intro m
  induction m with
  | zero =>
    intro _ c tm st hon hrep hS h0
    have hc : c = root := by rw [List.drop_zero] at hon; exact hon.same ho
    subst hc
    rw [← ht.det hz hrep] at h0
    rw [h0]
    rfl
  | succ m ih =>
    intro hm c tm st hon hrep hS hlk
    obtain ⟨h, x, tl, tr, L⟩ := level G ht ho (show m < l.length by omega)
    have hc := hon.same L.own
    subst hc
    have hrown : Rep (sk σ) (if kbit key m = 0 then x.left else x.right) (m + 1) (if kbit key m = 0 then tl else tr) := by
      have h1 := L.left
      have h2 := L.right
      split <;> assumption
    have htm := hrep.det hz hrown
    rw [htm] at hS hlk
    have hN := G.fit.next (σ0 := σ) rfl L.there L.kind L.depth L.pre L.left L.right
    have hb := beside_level G L
    have hdel : delT key m (.node tl tr) = fold key m (delT key (m + 1) (if kbit key m = 0 then tl else tr)) (if kbit key m = 0 then tr else tl) := by
      conv => lhs; unfold delT
      by_cases hk : kbit key m = 0
      · rw [if_pos hk, if_pos hk, if_pos hk]
      · rw [if_neg hk, if_neg hk, if_neg hk]
    have hrepm : Rep (sk σ) h m (.node tl tr) := .node L.there L.kind L.depth L.left L.right
    have honm : On (sk σ) key h m (l.drop m) e := by
      obtain ⟨hlt, hh⟩ := List.getElem?_eq_some_iff.1 L.at_
      rw [List.drop_eq_getElem_cons hlt, hh]
      exact .step L.there L.kind L.depth L.own
    have hlm := looked_node key m tl tr
    rw [lookedF, if_neg (by rw [hlk]; simp)] at hlm
    unfold lookL
    rw [hb]
    obtain ⟨o, ho'⟩ : ∃ o, o = (if kbit key m = 0 then x.right else x.left) := ⟨_, rfl⟩
    obtain ⟨u, hu⟩ : ∃ u, u = (if kbit key m = 0 then tr else tl) := ⟨_, rfl⟩
    obtain ⟨T, hT⟩ : ∃ T, T = delT key (m + 1) (if kbit key m = 0 then tl else tr) := ⟨_, rfl⟩
    rw [← ho', ← hu] at hN
    rw [← hT] at hS hdel hlm
    rw [← hu] at hdel hlm
    rw [← ho']
    by_cases h0 : o = 0
    · rw [if_pos h0]
      have hu0 : u = .nil := by
        rcases hN with ⟨_, e2⟩ | ⟨z, z1, _⟩
        · exact e2
        · rw [h0, hz] at z1; cases z1
      refine ih (by omega) honm hrepm ?_ (by rw [hlm, hu0]; rfl)
      rw [hdel, hu0]
      rcases hS with ⟨e1, e2⟩ | ⟨y, y1, y2, y3, y4⟩
      · rw [e2]; exact .inl ⟨e1, rfl⟩
      · rw [y3]; exact .inr ⟨y, y1, y2, rfl, y4.less (by omega)⟩
    · rw [if_neg h0]
      obtain ⟨z, z1, z2, z3, z4⟩ := hN.resolve_left (fun h => h0 h.1)
      have hun : u.isNil = false := by
        cases u with
        | nil => exact absurd (z2.none_zero rfl) h0
        | leaf _ _ => rfl
        | node _ _ => rfl
      rw [hun, if_neg (by simp)] at hlm
      by_cases hst : st = 0
      · rw [if_neg (by simpa using hst)]
        have hTn : T = .nil := by
          rcases hS with ⟨_, e2⟩ | ⟨y, y1, _⟩
          · exact e2
          · rw [hst, hz] at y1; cases y1
        by_cases hk1 : (nd σ o).kind = 1
        · rw [if_pos hk1]
          have hz1 : z.kind = 1 := by rw [← nd_kind z1]; exact hk1
          have hul : u = .leaf z.key z.value := z2.det hz (.leaf z1 hz1)
          refine ih (by omega) honm hrepm ?_ (by rw [hlm, hTn, hul]; rfl)
          rw [hdel, hTn]
          rw [hul]
          exact .inr ⟨z, z1, hz1, rfl, z3⟩
        · rw [if_neg hk1]
          have hz2 : z.kind = 2 := by
            by_cases h2 : z.kind = 2
            · exact h2
            · have := (G.fit.leaf z1 h2).1
              exact absurd (by rw [nd_kind z1]; exact this) hk1
          have hnode := z2.isNode' hz z1 hz2
          rw [if_neg (by rw [hnode]; simp)] at hlm
          rw [looked_up G ht ho m (by omega) honm hrepm (by rw [hlm]; omega), hlm]
          rfl
      · rw [if_pos hst]
        have hTn : T.isNil = false := by
          rcases hS with ⟨e1, _⟩ | ⟨y, _, _, y3, _⟩
          · exact absurd e1 hst
          · rw [y3]; rfl
        rw [if_neg (by rw [hTn]; simp)] at hlm
        rw [looked_up G ht ho m (by omega) honm hrepm (by rw [hlm]; omega), hlm]
        rfl
theorem lookL_tree (G : Good σ) (ht : Rep (sk σ) root 0 t) (ho : On (sk σ) key root 0 l e) (hth : thereS σ key e = true) : (lookL σ key l l.length 0).2.1 + 1 = (looked key 0 t : Nat) := by
  have hz := G.fit.zero
  obtain ⟨te, hte⟩ := ho.rep_end hz ht
  rw [Nat.zero_add] at hte
  have hend : delT key l.length te = .nil ∧ looked key l.length te = 0 := by
    unfold thereS at hth
    simp at hth
    cases hte with
    | nil => exact ⟨rfl, rfl⟩
    | leaf hn h1 =>
      rw [nd_key hn] at hth
      unfold delT
      rw [if_pos hth.2]
      exact ⟨rfl, rfl⟩
    | node hn h2 _ _ _ => rw [nd_kind hn, h2] at hth; exact absurd hth.1 (by decide)
  have hone : On (sk σ) key e l.length (l.drop l.length) e := by
    rw [List.drop_length]
    exact .stop ho.end_
  exact lookL_looked G ht ho l.length (Nat.le_refl _) hone hte (.inl ⟨rfl, hend.1⟩) hend.2
theorem looked_le (k : List UInt8) : ∀ (m : Nat) (L : Ents), m ≤ 256 → looked k (256 - m) (tree m L) ≤ 256
  | 0, L, _ => by
    have h : (tree 0 L).isNode = false := by
      match L with
      | [] => rfl
      | [p] => rfl
      | p :: q :: R => rfl
    cases ht : tree 0 L with
    | nil => unfold looked; omega
    | leaf _ _ => unfold looked; omega
    | node _ _ => rw [ht] at h; cases h
  | m + 1, L, hm => by
    match L with
    | [] => rw [tree_nil]; unfold looked; omega
    | [p] => rw [tree_one]; unfold looked; omega
    | p :: q :: R =>
      rw [tree_two (by simp), looked_node]
      have h0 := looked_le k m (sideE 0 (255 - m) (p :: q :: R)) (by omega)
      have h1 := looked_le k m (sideE 1 (255 - m) (p :: q :: R)) (by omega)
      rw [show 256 - (m + 1) + 1 = 256 - m by omega]
      have hle : ∀ (d n : Nat) (T u : Tr), n ≤ 256 → d + 1 ≤ 256 → lookedF d n T u ≤ 256 := fun d n T u h1 h2 => by
        unfold lookedF
        split
        · exact h1
        · split
          · omega
          · split <;> omega
      exact hle _ _ _ _ (by split <;> assumption) (by omega)

/-- What Cost says. -/
theorem DCost_hand (h : At w s F σ) (root : Int) (K : Array Value) (hh : atHand σ root ≠ 0) :
    Calls Tryz.prog 15 #[.pointer (some ⟨s, 0, none⟩), .int .i64 root, .agg K] w fun e w' => e = .returned (.tuple #[.int .i64 0, .int .i64 (atHand σ root)]) ∧ Adds w w' := by
  have a0 : Adds w (w.alloc (.cells K 34)) := (Ch.refl (fun _ => False) w).alloc _
  have ha := AtHand_ok (h.adds a0) root
  obtain ⟨er, her⟩ : ∃ x, x = atHand σ root := ⟨_, rfl⟩
  rw [← her] at ha hh ⊢
  have HA := Lib.hid ha
  have A0 := Lib.hid a0
  clear h ha her a0
  go_enter Tryz.func15, Tryz.ntmps15
  go_wp2_with fail
  refine HA.out.mono ?_; rintro e w1 ⟨rfl, a1⟩
  go_wp2
  go_ret2
  exact ⟨rfl, A0.out.trans a1 (fun _ h => h.elim)⟩
set_option maxRecDepth 100000 in
theorem DCost_ok (hAt : At w s F σ) (GG : Good σ) (root : Int) (key : List UInt8) (hk : key.length = 32) (hh : atHand σ root = 0)
    {l : List Int} {e1 : Int} (ho : On (sk σ) key root 0 l e1) :
    Calls Tryz.prog 15 #[.pointer (some ⟨s, 0, none⟩), .int .i64 root, .agg (brow key)] w fun e w' => e = .returned (.tuple #[.int .i64 (if thereS σ key e1 = true then (lookL σ key l l.length 0).2.1 + 1 else 0), .int .i64 0]) ∧ Adds w w' := by
  obtain ⟨K, hK⟩ : ∃ K, K = brow key := ⟨_, rfl⟩
  have hKs : K.size = 32 := by rw [hK, brow_size, hk]
  have a0 : Adds w (w.alloc (.cells K 34)) := (Ch.refl (fun _ => False) w).alloc _
  have ha := AtHand_ok (hAt.adds a0) root
  have hlk := fun w1 (a : Adds w w1) => look_ok (hAt.adds a) GG root key hk (rootErr_hand hh) ho
  have hll : l.length ≤ 256 := by have := ho.len GG.fit (by omega); omega
  obtain ⟨f1, f2, _⟩ := lookL_from σ key l l.length 0
  rw [hh] at ha
  obtain ⟨th, hth⟩ : ∃ x, x = thereS σ key e1 := ⟨_, rfl⟩
  rw [← hth, ← hK] at hlk
  rw [← hth, ← hK]
  obtain ⟨st, fr, an, hL⟩ : ∃ st fr an, lookL σ key l l.length 0 = (st, fr, an) := ⟨_, _, _, rfl⟩
  rw [hL] at hlk f1 f2 ⊢
  simp only at f1 f2 ⊢
  have HA := Lib.hid ha
  have A0 := Lib.hid a0
  have HLK := Lib.hid hlk
  have HK := Lib.hid hKs
  have f3 : fr < 257 := by omega
  clear hK ha a0 hh hlk ho GG hKs hL hAt f2 hll hth
  go_enter Tryz.func15, Tryz.ntmps15
  go_wp2_with fail
  refine HA.out.mono ?_; rintro e w1 ⟨rfl, a1⟩
  have A1 := Lib.hid (A0.out.trans a1 (fun _ h => h.elim))
  have K1 := Lib.hid (a1.row (heap_alloc_new w (.cells K 34)) id)
  clear a1
  have hrow := row_alloc (heap_alloc_new w1 (.cells #[.slice none 0 0, .bool false, .int .i64 0, .int .i64 0, .bool false] 85))
  clear hrow
  go_wp2_with (first
    | fail
    | ((with_reducible show wpList _ _ _ (⟨_, .load 34 _, _, _, _, _⟩ :: _) _ _); refine wpList_load_part rfl 34 _ rfl w.heap.size 0 rfl K1.out Tryz.underlying34 rfl sizeP (by rw [HK.out]; omega) K (by simp [← HK.out]) ?_))
  refine (HLK.out _ A1.out).mono ?_; rintro e w2 ⟨v2, rfl, o2, a2⟩
  obtain ⟨ao2, cap2, rfl⟩ := owns_form o2
  have H2 := Lib.hid (A1.out.trans a2 (fun _ h => h.elim))
  clear o2 a2
  go_upto_region 5 with (first
    | fail
    | ((with_reducible show wpList _ _ _ (⟨_, .store 85 _ _, _, _, _, _⟩ :: _) _ _); refine wpList_store_part rfl 85 _ _ rfl w2.heap.size 0 #[.slice ao2 l.length cap2, .bool th, .int .i64 st, .int .i64 fr, .bool an] rfl rfl (heap_alloc_new _ _) sizePn (by simp) (by simp [Value.oneCell']) #[.slice ao2 l.length cap2, .bool th, .int .i64 st, .int .i64 fr, .bool an] (by simp [splice]) ?_))
  obtain ⟨w3, hw3⟩ : ∃ w3, w3 = (w2.alloc (.cells #[.slice none 0 0, .bool false, .int .i64 0, .int .i64 0, .bool false] 85)).setRow w2.heap.size #[.slice ao2 l.length cap2, .bool th, .int .i64 st, .int .i64 fr, .bool an] := ⟨_, rfl⟩
  rw [← hw3]
  have ad3 : Adds w2 w3 := by rw [hw3]; exact ((Ch.refl _ _).alloc _).setRow (.inr (Nat.le_refl _)) _
  have r3 : w3.heap[w2.heap.size]? = some (.cells #[.slice ao2 l.length cap2, .bool th, .int .i64 st, .int .i64 fr, .bool an] 85 (0, 0)) := by
    rw [hw3]
    exact row_setRow_same (heap_alloc_new _ _) _
  have H3 := Lib.hid (H2.out.trans ad3 (fun _ h => h.elim))
  have q1 := row_cell r3 (i := 1) rfl
  have q3 := row_cell r3 (i := 3) rfl
  clear hw3 ad3 r3 K1 H2 A1 A0 HLK HA
  cases th with
  | true =>
    go_wp2_with fail
    go_ret2
    refine ⟨?_, H3.out⟩
    first | rfl | (rw [if_pos rfl, wrap_nat_free (by omega) (by omega)])
  | false =>
    go_wp2_with fail
    go_ret2
    exact ⟨rfl, H3.out⟩
theorem DCost_db (hAt : At w s F σ) (D : Db σ root L) (hk : key.length = 32) :
    Calls Tryz.prog 15 #[.pointer (some ⟨s, 0, none⟩), .int .i64 root, .agg (brow key)] w fun e w' => e = .returned (.tuple #[.int .i64 (if key ∈ keysOf L then (looked key 0 (tree 256 L) : Nat) else 0 : Int), .int .i64 0]) ∧ Adds w w' := by
  obtain ⟨l, e1, ho⟩ := On.ex (k := key) D.rep
  have hth := there_key D hk ho
  refine (DCost_ok hAt D.good root key hk D.hand ho).mono fun e w' ⟨he, ha⟩ => ⟨?_, ha⟩
  rw [he]
  by_cases hm : key ∈ keysOf L
  · rw [if_pos (hth.2 hm), if_pos hm, lookL_tree D.good D.rep ho (hth.2 hm)]
  · rw [if_neg (fun h => hm (hth.1 h)), if_neg hm]
end
end Go.Proofs.YtpeebeebakjpdaaGreat.Store
