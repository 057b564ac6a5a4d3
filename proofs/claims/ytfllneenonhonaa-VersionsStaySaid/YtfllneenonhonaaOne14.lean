/- Layer 14's statements: a store with a root of one leaf and its versions; what the document's examples say. -/
import Derived.Test.YtfllneenonhonaaVersN
import Derived.Test.YtfllneenonhonaaAwake9
import Derived.Lib.SlBytesConst
namespace Go.Proofs.Ytfllneenonhonaa.Law14
open Go Go.RowKit Go.Proofs.Ytfllneenonhonaa Go.Proofs.Ytfllneenonhonaa.ShaW Go.Proofs.Ytfllneenonhonaa.Path Go.Proofs.Ytfllneenonhonaa.Store Go.Proofs.Ytfllneenonhonaa.Law9
set_option maxHeartbeats 1600000
set_option linter.unusedVariables false

theorem one_byte {w : World} {g : Nat} {b : UInt8} {fr : Nat × Nat} {t : TypeId} (h : w.heap[g]? = some (.cells #[.int .u8 (b.toNat : Int)] t fr)) : Bytes w (.slice (some ⟨g, 0, none⟩) 1 1) [b] :=
  ⟨_, 1, rfl, Nat.le_refl _, by decide, fun j y hy => by
    match j, hy with
    | 0, hy =>
      simp at hy
      subst hy
      exact ⟨g, 0, rfl, row_cell h rfl⟩
    | j + 1, hy => simp at hy⟩
def ent1 : Ents := upd [] (keyL 0) [118]
theorem tree1 : (tree 256 ent1).nodes = 1 := rfl
theorem wf_small' {x : Int} (h0 : 0 ≤ x) (h1 : x ≤ 65536) : (Lit.int .i64 x).wf = true := WalkArith.wf_i64 (by omega)
/-- The store of 'one': one leaf, held so often; names. -/
structure St14 (w0 w : World) (s v : Nat) (r : Int) (σ : SlabSt Nd) (ν : Nms) (R : List (Int × Ents)) (tt : Nat) : Prop where
  vs : Vs w0 w v s σ ν (fun _ => False)
  roots : Roots σ R
  ne : r ≠ 0
  room : σ.room = 600
  live : Store.live σ ≤ 300
  total : Store.total σ ≤ tt
  span : σ.slots.length ≤ 300
section
variable {w0 w w' : World} {s v tt : Nat} {r : Int} {σ σ' : SlabSt Nd} {ν : Nms} {R : List (Int × Ents)}
theorem St14.adds (h : St14 w0 w s v r σ ν R tt) (a : Adds w w') : St14 w0 w' s v r σ ν R tt := ⟨h.vs.adds a, h.roots, h.ne, h.room, h.live, h.total, h.span⟩
theorem St14.world (h : St14 w0 w s v r σ ν R tt) : Adds w0 w := h.vs.world
theorem St14.at (h : St14 w0 w s v r σ ν R tt) : ∃ F, At w s F σ := h.vs.ow.at
end
set_option maxRecDepth 100000 in
theorem one_ok (w : World) : Calls Try.prog 33 #[] w fun e w' => ∃ s v r σ, e = .returned (.tuple #[.pointer (some ⟨s, 0, none⟩), .int .i64 r, .pointer (some ⟨v, 0, none⟩)]) ∧ St14 w w' s v r σ [] [(r, ent1)] 600 := by
  obtain ⟨K0, hK0⟩ : ∃ K, K = brow (keyL 0) := ⟨_, rfl⟩
  have hb0 := key_built
  rw [← hK0] at hb0
  have HB0 := Lib.hid hb0
  have HK0 := Lib.hid hK0
  clear hb0 hK0
  go_enter Try.func33, Try.ntmps33
  go_wp2_with fail
  refine (New_own 600 w (by decide) (by decide)).mono ?_; rintro e w1 ⟨s, rfl, h1⟩
  have D0 := Db.new 600 (by decide) (by decide)
  have kc0 := Lib.run_convert_bytes_const (P := Try.prog) w1 35 5 #[.int .u8 118] 1 1 Try.underlying35 Try.underlying5
  simp only [List.size_toArray, List.length_cons, List.length_nil, Nat.zero_add, Nat.reduceAdd] at kc0
  obtain ⟨w2, hw2⟩ : ∃ w2, w2 = w1.alloc (.cells #[.int .u8 118] 5 (1, 2)) := ⟨_, rfl⟩
  have a2 : Adds w1 w2 := by rw [hw2]; exact (Ch.refl _ _).alloc _
  have r2 : w2.heap[w1.heap.size]? = some (.cells #[.int .u8 118] 5 (1, 2)) := by rw [hw2]; exact heap_alloc_new _ _
  have hp := Put_db ((h1.ow.less (G' := fun _ => False) (fun _ h => h.elim)).adds a2) D0 (key := keyL 0) (bs := [118]) rfl (one_byte (b := 118) r2) (fun _ k hk => by cases hk; exact row_lt r2) (by decide) (by decide) (by decide)
  rw [← HK0.out] at hp
  have HP := Lib.hid hp
  have HW2 := Lib.hid hw2
  clear hp h1 hw2 a2 r2 D0
  go_wp2_with (first
    | fail
    | ((with_reducible show wpList _ _ _ (⟨_, .build 23 #[], _, _, _, _⟩ :: _) _ _); refine wpList_build_none rfl 23 rfl K0 HB0.out ?_))
  rw [← HW2.out]
  refine HP.out.mono ?_; rintro e w3 ⟨r, σ1, rfl, o3, b3, W3, D3, _⟩
  have hv := VNew_ok o3 (by rw [W3.room]; decide)
  have S3 := W3.sole (Sole.new 600 0)
  have hR : Roots σ1 [(r, ent1)] := D3.roots S3
  have hl : Store.live σ1 ≤ 300 := by rw [D3.live S3]; show (tree 256 ent1).nodes ≤ 300; rw [tree1]; decide
  have hsp : σ1.slots.length ≤ 300 := by have := W3.span; rw [show (⟨600, [], []⟩ : SlabSt Nd).slots.length = 0 from rfl] at this; omega
  have ht : Store.total σ1 ≤ 600 := by have := W3.total; rw [show total (⟨600, [], []⟩ : SlabSt Nd) = 0 from rfl] at this; omega
  have HV := Lib.hid hv
  have HR := Lib.hid (And.intro hR (And.intro W3.ne (And.intro W3.room (And.intro hl (And.intro ht hsp)))))
  clear HP o3 b3 W3 D3 hv S3 hR hl ht kc0
  go_wp2_with fail
  refine HV.out.mono ?_; rintro e w4 ⟨v, rfl, v4, a4, _⟩
  have H4 : RowKit.Hid (St14 w w4 s v r σ1 [] [(r, ent1)] 600) := Lib.hid ⟨v4, HR.out.1, HR.out.2.1, HR.out.2.2.1, HR.out.2.2.2.1, HR.out.2.2.2.2.1, HR.out.2.2.2.2.2⟩
  clear v4 a4
  go_wp2
  go_ret3
  exact ⟨s, v, r, σ1, rfl, H4.out⟩
section
variable {w0 w w' : World} {s v tt : Nat} {r : Int} {σ σ' : SlabSt Nd} {ν : Nms} {R : List (Int × Ents)}
theorem name_a : nameB [97] = true := by decide +kernel
theorem rootErr_roots (h : Roots σ R) {p : Int × Ents} (hp : p ∈ R) : rootErr σ p.1 = 0 := rootErr_hand (h.db hp).hand
theorem roots_wf (h : Roots σ R) {p : Int × Ents} (hp : p ∈ R) (hr : σ.slots.length ≤ 65536) : (Lit.int .i64 p.1).wf = true := by
  rcases h.there hp with h0 | h1
  · rw [h0]; decide
  · obtain ⟨x, hx, _⟩ := held_there h1
    obtain ⟨m, hm, _, _, hlt⟩ := SlabSt.get?_some hx
    exact wf_small' (by omega) (by omega)
theorem St14.wf (h : St14 w0 w s v r σ ν ((r, ent1) :: R) tt) : (Lit.int .i64 r).wf = true := by
  obtain ⟨F, hF⟩ := h.at
  exact roots_wf h.roots (p := (r, ent1)) (List.mem_cons_self ..) (by have := hF.len; have := hF.room; omega)
/-- The root gets a name. -/
theorem St14.add (h : St14 w0 w s v r σ ν ((r, ent1) :: R) tt) {x : List UInt8} (hn : nameB x = true) (hx : x ∉ ν.names) (hl : ν.length < 16) (ht : tt < 10000) :
    Calls Try.prog 34 #[.pointer (some ⟨v, 0, none⟩), .string (bstr x), .int .i64 r] w fun e w' => ∃ σ', e = .returned (.int .i64 0) ∧ St14 w0 w' s v r σ' (ν.set x r) ((r, ent1) :: (r, ent1) :: R) (tt + 1) := by
  have ht1 := h.total
  have hh := h.roots.hold h.ne (by omega)
  have hc : addErr σ ν x r = 0 := by
    unfold addErr
    rw [if_neg (by rw [hn]; decide), if_neg (by rw [rootErr_roots h.roots (p := (r, ent1)) (List.mem_cons_self ..)]; simp), if_neg hx, if_neg (by omega)]
  refine (h.vs.add (name_len hn) hc (fun _ => hh.1) h.wf).mono fun e w' ⟨he, hv, _⟩ => ⟨holdV σ r, he, ?_⟩
  have e0 : holdV σ r = (holdS σ r).2 := by unfold holdV; rw [if_neg h.ne]
  rw [e0] at hv ⊢
  exact ⟨hv, hh.2.1, h.ne, hh.2.2.2.2.trans h.room, by rw [hh.2.2.1]; exact h.live, by rw [hh.2.2.2.1]; omega, by rw [span_holdS]; exact h.span⟩
theorem St14.addNo (h : St14 w0 w s v r σ ν R tt) {x : List UInt8} (hx : x.length ≤ maxLen) {root c : Int} (hc : addErr σ ν x root = c) (h0 : c ≠ 0) :
    Calls Try.prog 34 #[.pointer (some ⟨v, 0, none⟩), .string (bstr x), .int .i64 root] w fun e w' => e = .returned (.int .i64 c) ∧ Adds w w' := by
  subst hc
  exact h.vs.addNo hx root h0
/-- A root is let go. -/
theorem St14.drop (h : St14 w0 w s v r σ ν ((r, ent1) :: R) tt) :
    Calls Try.prog 41 #[.pointer (some ⟨s, 0, none⟩), .int .i64 r] w fun e w' => ∃ (n : Int) (σ' : SlabSt Nd), e = .returned (.tuple #[.int .i64 n, .int .i64 0]) ∧ St14 w0 w' s v r σ' ν R tt := by
  obtain ⟨m, ho, hst⟩ := h.vs.step
  obtain ⟨g0, g1, g2, g3, g4⟩ := h.roots.drop h.ne
  have hd := ho.drop r
  rw [g0] at hd
  refine hd.mono fun e w' ⟨he, o, b⟩ => ⟨_, (dropS σ r).2.2, he, (hst o b).1, g1, h.ne, g4.trans h.room, Nat.le_trans g2 h.live, Nat.le_trans g3 h.total, by rw [span_dropS]; exact h.span⟩
theorem St14.held (h : St14 w0 w s v r σ ν R tt) : Calls Try.prog 62 #[.pointer (some ⟨s, 0, none⟩), .int .i64 r] w fun e w' => e = .returned (.int .i64 (Store.roots R r : Nat)) ∧ Adds w w' := by
  obtain ⟨F, hF⟩ := h.at
  have := Held_ok hF r
  rw [show (nd σ r).held = Store.held σ r from rfl, h.roots.held r h.ne] at this
  exact this
end
set_option maxRecDepth 100000 in
theorem awake_ok (w : World) : Calls Try.prog 35 #[] w fun e w' => e = .returned (.bool true) ∧ Adds w w' := by
  obtain ⟨S, hS⟩ : ∃ S, S = bstr [97] := ⟨_, rfl⟩
  have hSd : ({ data := #[97] } : ByteArray) = S := by rw [hS]; rfl
  have HS := Lib.hid hS
  clear hS
  go_enter Try.func35, Try.ntmps35
  go_wp2_with fail
  refine (one_ok w).mono ?_; rintro e w1 ⟨s, v, r, σ, rfl, h1⟩
  have hadd := h1.add name_a (by simp [Nms.names]) (by decide) (by decide)
  rw [← HS.out] at hadd
  have HADD := Lib.hid hadd
  clear hadd h1
  go_wp2_with fail
  refine HADD.out.mono ?_; rintro e w2 ⟨σ2, rfl, h2⟩
  have hno := h2.addNo (x := [97]) (root := r) (c := 6) (by decide) (by
    unfold addErr
    rw [if_neg (by rw [name_a]; decide), if_neg (by rw [rootErr_roots h2.roots (p := (r, ent1)) (List.mem_cons_self ..)]; simp), if_pos (by simp [Nms.names, Nms.set])]) (by decide)
  rw [← HS.out] at hno
  have HNO := Lib.hid hno
  have H2 := Lib.hid h2
  clear hno h2 HADD
  go_wp2_with fail
  refine HNO.out.mono ?_; rintro e w3 ⟨rfl, a3⟩
  have H3 := Lib.hid (H2.out.adds a3)
  have hhe := H3.out.held
  rw [show Store.roots [(r, ent1), (r, ent1)] r = 2 by simp [Store.roots]] at hhe
  have HHE := Lib.hid hhe
  clear a3 hhe HNO
  go_wp2_with fail
  refine HHE.out.mono ?_; rintro e w4 ⟨rfl, a4⟩
  have H4 := Lib.hid (H3.out.adds a4)
  clear a4 HHE
  go_wp2_with fail
  refine H4.out.drop.mono ?_; rintro e w5 ⟨n5, σ5, rfl, h5⟩
  have hrt := h5.vs.root (x := [97]) (by decide)
  rw [if_pos (by simp [Nms.names, Nms.set]), Nms.get_same, ← HS.out] at hrt
  have HRT := Lib.hid hrt
  have hnm := h5.vs.names_ok (by show 1 ≤ 65536; decide)
  have HNM := Lib.hid hnm
  have H5 := Lib.hid h5
  clear h5 hrt hnm
  go_wp2_with fail
  refine HRT.out.mono ?_; rintro e w6 ⟨rfl, rfl⟩
  go_wp2_with fail
  refine HNM.out.mono ?_; rintro e w7 ⟨q, rfl, hq, a7⟩
  obtain ⟨ao, cap, rfl, hrow, hlen⟩ := RowOf.own hq
  have hsn : sortN (Nms.set [] [97] r) = [[97]] := by
    have h1 : (sortN (Nms.set [] [97] r)).length = 1 := sortN_length _
    obtain ⟨x, hx⟩ := List.length_eq_one_iff.1 h1
    have h2 : [97] ∈ sortN (Nms.set [] [97] r) := sortN_mem.2 (by simp [Nms.names, Nms.set])
    rw [hx] at h2 ⊢
    rw [List.mem_singleton.1 h2]
  rw [hsn] at hrow
  have hst := fun w8 (a : Adds w7 w8) (h : RowOf w8 (some ⟨w7.heap.size, 0, none⟩) ([[97]].map encStr)) => SameTexts_ok (l1 := [[97]]) (l2 := [[97]]) cap 1 (hrow.adds a) h (by decide) (by decide)
  simp only [decide_true] at hst
  have HST := Lib.hid hst
  have H7 := Lib.hid (H5.out.adds a7)
  clear hq a7 hrow hlen hst hsn
  go_wp2_with fail
  have hw8 : Adds w7 (w7.alloc (.cells #[.string S] 9)) := (Ch.refl _ _).alloc _
  refine (HST.out _ hw8 (fun i x hx => ?_)).mono ?_
  · match i, hx with
    | 0, hx =>
      simp at hx
      subst hx
      refine ⟨w7.heap.size, 0, rfl, ?_⟩
      have := row_cell (heap_alloc_new w7 (.cells #[.string S] 9)) (i := 0) rfl
      rw [this, HS.out]
      rfl
    | i + 1, hx => simp at hx
  rintro e w9 ⟨rfl, a9⟩
  have H9 := Lib.hid ((H7.out.adds hw8).adds a9)
  clear a9 hw8
  go_wp2
  go_ret
  exact ⟨rfl, H9.out.world⟩
end Go.Proofs.Ytfllneenonhonaa.Law14
