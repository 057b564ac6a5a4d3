/- node.sorted, node.RootAt and node.Root: the root of entries, or why there is none. -/
import Derived.Test.YtpeebeebakjpdaaGreatNodeB
import Derived.Test.YtpeebeebakjpdaaGreatKeySet
namespace Go.Proofs.YtpeebeebakjpdaaGreat.Law9
open Go Go.RowKit Go.Sort Go.Proofs.YtpeebeebakjpdaaGreat Go.Proofs.YtpeebeebakjpdaaGreat.ShaW Go.Proofs.YtpeebeebakjpdaaGreat.Path Go.Proofs.YtpeebeebakjpdaaGreat.Store
set_option maxHeartbeats 3200000
set_option linter.unusedVariables false

def zeroPr : Pr := ⟨List.replicate 32 0, .slice none 0 0, []⟩
theorem zeroPair : (Tryz.prog.info? 101).bind (·.zero) = some (.agg zeroPr.cells) := by kernel_rfl
/-- Entries of which a root can be told. -/
def FineP (l : List Pr) : Prop := l.length ≤ 4096 ∧ (∀ x ∈ l, x.val.length ≤ 1024) ∧ (l.map (·.key)).Nodup
def seen (l : List Pr) (k : Nat) : List (List UInt8) := ((l.take k).map (·.key)).reverse
theorem seen_next {l : List Pr} {k : Nat} {x : Pr} (hx : l[k]? = some x) : seen l (k + 1) = x.key :: seen l k := by
  have htk : l.take (k + 1) = l.take k ++ [x] := by rw [List.take_add_one, hx]; rfl
  unfold seen
  rw [htk]
  simp
theorem ofPairs : ∀ (l : List Pr), (∀ x ∈ l, x.key.length = 32 ∧ x.vv.oneCell' = true) → ∃ d : List PrK, d.map PrK.p = l
  | [], _ => ⟨[], rfl⟩
  | x :: l, h => by
    obtain ⟨d, hd⟩ := ofPairs l (fun y hy => h y (by simp [hy]))
    have hx := h x (by simp)
    exact ⟨⟨x, hx.1, hx.2⟩ :: d, by simp [hd]⟩
theorem not_fine_val {l : List Pr} {k : Nat} {x : Pr} (hx : l[k]? = some x) (h : 1024 < x.val.length) : ¬ FineP l := fun hf => by
  have := hf.2.1 x (List.mem_of_getElem? hx)
  omega
theorem not_fine_key {l : List Pr} {k : Nat} {x : Pr} (hx : l[k]? = some x) (h : x.key ∈ seen l k) : ¬ FineP l := fun hf => by
  unfold seen at h
  rw [List.mem_reverse] at h
  have htk : l.take (k + 1) = l.take k ++ [x] := by rw [List.take_add_one, hx]; rfl
  have hn : ((l.take (k + 1)).map (·.key)).Nodup := hf.2.2.sublist ((List.take_sublist _ l).map _)
  rw [htk, List.map_append, List.nodup_append] at hn
  exact hn.2.2 _ h _ (by simp) rfl
theorem nodup_next {l : List Pr} {k : Nat} {x : Pr} (hx : l[k]? = some x) (h : x.key ∉ seen l k) (hn : ((l.take k).map (·.key)).Nodup) : ((l.take (k + 1)).map (·.key)).Nodup := by
  unfold seen at h
  rw [List.mem_reverse] at h
  have htk : l.take (k + 1) = l.take k ++ [x] := by rw [List.take_add_one, hx]; rfl
  rw [htk, List.map_append, List.nodup_append]
  refine ⟨hn, by simp, fun a ha b hb => ?_⟩
  simp at hb
  rw [hb]
  exact fun e => h (e ▸ ha)
/-- What sorting a copy leaves. -/
theorem sort_pairs {w w1 : World} {ao ao' : Option Addr} {l : List Pr} {cap' : Nat} (h : PairsAt w ao l) (a1 : Adds w w1) (hn : l.length ≤ 4096)
    (hc : l ≠ [] → ∃ g cur, ao' = some ⟨g, 0, none⟩ ∧ w.heap.size ≤ g ∧ l.length ≤ cap' ∧ w1.heap[g]? = some (.cells cur 101 (0, 0)) ∧ l.length * 33 ≤ cur.size ∧ ∀ i x, l[i]? = some x → cur.extract (i * 33) (i * 33 + 33) = x.cells) :
    Calls Tryz.prog 144 #[.slice ao' l.length cap', .func (.func 145) #[] #[]] w1 fun e w2 => e = .returned (.tuple #[]) ∧ Adds w w2 ∧
      ∃ l', l'.length = l.length ∧ (l.length ≤ cap' ∨ l = []) ∧ l'.Perm l ∧ Rising (l'.map Pr.ent) ∧ PairsAt w2 ao' l' := by
  by_cases hl : l = []
  · subst hl
    exact (AnyF.slices_SortFunc_none sortPairs ao' cap' (.func (.func 145) #[] #[]) w1).mono fun e w2 ⟨he, hw⟩ => ⟨he, by rw [hw]; exact a1, [], rfl, .inr rfl, .refl _, List.Pairwise.nil, fun x hx => by simp at hx, fun i x hx => by simp at hx⟩
  · obtain ⟨g, cur, rfl, hg, hcap, hrow, hsz, hx⟩ := hc hl
    obtain ⟨d, hd⟩ := ofPairs l (fun x hx => ⟨(h.1 x hx).key, by obtain ⟨ao, cap, e, _⟩ := (h.1 x hx).val.form; rw [e]; rfl⟩)
    have hdl : d.length = l.length := by rw [← hd, List.length_map]
    have hH : HoldsK encP 33 w1 g 0 d.toArray := pairs_holds hrow fun i x hi => by
      have hi' : d[i]? = some x := by simpa using hi
      have hil := (List.getElem?_eq_some_iff.1 hi').1
      exact ⟨by omega, hx i x.p (by rw [← hd, List.getElem?_map, hi']; rfl)⟩
    have hs := sort_ok (cap := cap') hH (row_lt hrow) (by simp; omega)
    rw [List.size_toArray, hdl] at hs
    refine hs.mono fun e w2 ⟨he, d', h1, h2, h3, h4, h5⟩ => ⟨he, a1.trans h5 (fun k hk => .inr (by omega)), d'.toList.map PrK.p, by simp [h1], .inl hcap, ?_, ?_, ?_⟩
    · rw [← hd]; exact h2.map _
    · unfold Rising
      rw [List.map_map, List.pairwise_map]
      exact h3
    · have hw2 : Adds w w2 := a1.trans h5 (fun k hk => .inr (by omega))
      have hp : (d'.toList.map PrK.p).Perm l := by rw [← hd]; exact h2.map _
      refine ⟨fun x hx => (h.1 x (hp.mem_iff.1 hx)).keep hw2 (fun _ h => h.elim), fun i x hi => ⟨g, 0, rfl, ?_⟩⟩
      rw [List.getElem?_map] at hi
      cases hy : d'[i]? with
      | none => rw [Array.getElem?_toList, hy] at hi; cases hi
      | some y =>
        rw [Array.getElem?_toList, hy] at hi
        cases hi
        exact holds_pairs h4 hy
set_option maxRecDepth 100000 in
theorem sorted_ok {w : World} {ao : Option Addr} {l : List Pr} (cap : Nat) (h : PairsAt w ao l) :
    Calls Tryz.prog 124 #[.slice ao l.length cap] w fun e w' => Adds w w' ∧ ∃ v c, e = .returned (.tuple #[v, .int .i64 c]) ∧ (c = 0 ∨ c ≠ 0 ∧ v = .slice none 0 0) ∧ (c = 0 ↔ FineP l) ∧
      (c = 0 → ∃ ao' cap' l', v = .slice ao' l.length cap' ∧ l'.length = l.length ∧ (l.length ≤ cap' ∨ l = []) ∧ l'.Perm l ∧ Rising (l'.map Pr.ent) ∧ PairsAt w' ao' l') := by
  obtain ⟨len, hlen⟩ : ∃ len, len = l.length := ⟨_, rfl⟩
  by_cases hlong : 4096 < l.length
  · have hi : decide ((4096 : Int) < (len : Int)) = true := decide_eq_true (by omega)
    have hi' : decide (4096 < len) = true := decide_eq_true (by omega)
    have HF := Lib.hid (show ¬ FineP l from fun hf => by have := hf.1; omega)
    rw [← hlen] at hlong ⊢
    clear h hlen hlong
    go_enter Tryz.func124, Tryz.ntmps124
    go_wp2
    go_ret2
    exact ⟨Ch.refl _ _, _, _, rfl, .inr ⟨by decide, rfl⟩, ⟨fun h => absurd h (by decide), fun hf => absurd hf HF.out⟩, fun h => absurd h (by decide)⟩
  · have hi : decide ((4096 : Int) < (len : Int)) = false := decide_eq_false (by omega)
    have hi' : decide (4096 < len) = false := decide_eq_false (by omega)
    have hle : len ≤ 4096 := by omega
    obtain ⟨ZP, hZP⟩ : ∃ Z, Z = zeroPr.cells := ⟨_, rfl⟩
    have hz := zeroPair
    rw [← hZP] at hz
    have hzs : ZP.size = 33 := by rw [hZP]; exact Pr.size rfl
    rw [← hlen] at hlong ⊢
    have HL := Lib.hid (And.intro hlen hle)
    have HP := Lib.hid h
    have HZ := Lib.hid (And.intro hz hzs)
    have hmm := @run_makeMap Tryz.prog
    clear h hlen hlong hz hzs hZP
    go_enter Tryz.func124, Tryz.ntmps124
    go_wp2
    have ms := SetAt.made w
    have HM := Lib.hid ms
    clear ms hi hi' hmm
    go_loopg [14] len (fun g s14 wr => ∃ k : Nat, s14 = .int .i64 k ∧ k + g = len ∧ SetAt wr w.heap.size k (seen l k) ∧ (∀ x ∈ l.take k, x.val.length ≤ 1024) ∧ ((l.take k).map (·.key)).Nodup ∧ Adds w wr)
    case atStart => exact ⟨0, rfl, by omega, HM.out, fun x hx => by simp at hx, by simp, (Ch.refl _ _).alloc _⟩
    case round =>
      obtain ⟨k, rfl, hk, hset, hval, hnd, hA⟩ := hrel
      have HA := Lib.hid hA
      have HS := Lib.hid hset
      have HV := Lib.hid (And.intro hval hnd)
      have HKG := Lib.hid hk
      clear hA hset hval hnd HM
      by_cases hkl : k = len
      · have hx1 : decide ((k : Int) < (len : Int)) = false := decide_eq_false (by omega)
        have hx1' : decide (k < len) = false := decide_eq_false (by omega)
        have hfine : FineP l := ⟨by have := HL.out; omega, by have := HV.out.1; rwa [List.take_of_length_le (by have := HL.out; omega)] at this, by have := HV.out.2; rwa [List.take_of_length_le (by have := HL.out; omega)] at this⟩
        have HF := Lib.hid hfine
        have hcl := Clone_ok cap (HP.out.keep HA.out (fun _ h => h.elim)) (by have := HL.out; omega)
        rw [← HL.out.1] at hcl
        have HCL := Lib.hid hcl
        clear hk hkl hfine hcl
        go_wp2_with fail
        refine HCL.out.mono ?_; rintro e w2 ⟨ao', cap', rfl, a2, hcp⟩
        rw [HL.out.1] at hcp
        have hso := sort_pairs (ao' := ao') (cap' := cap') (HP.out.keep HA.out (fun _ h => h.elim)) a2 (by have := HL.out; omega) hcp
        rw [← HL.out.1] at hso
        have HSO := Lib.hid hso
        clear a2 hcp hso
        go_wp2_with fail
        refine HSO.out.mono ?_; rintro e w3 ⟨rfl, a3, l', s1, s2, s3, s4, s5⟩
        have H3 := Lib.hid (And.intro (HA.out.trans a3 (fun _ h => h.elim)) (And.intro s1 (And.intro s2 (And.intro s3 (And.intro s4 s5)))))
        clear a3 s1 s2 s3 s4 s5
        go_wp2
        go_ret2
        exact ⟨H3.out.1, _, _, rfl, .inl rfl, ⟨fun _ => HF.out, fun _ => rfl⟩, fun _ => ⟨ao', cap', l', rfl, H3.out.2⟩⟩
      · have hx1 : decide ((k : Int) < (len : Int)) = true := decide_eq_true (by omega)
        have hx1' : decide (k < len) = true := decide_eq_true (by omega)
        have hkl' : k < l.length := by have := HL.out; omega
        have hklen : (k : Int) < (len : Int) := by omega
        have hklen' : k < len := by omega
        obtain ⟨x, hx⟩ : ∃ x, l[k]? = some x := ⟨_, List.getElem?_eq_getElem hkl'⟩
        obtain ⟨g0, off, rfl, hp⟩ := HP.out.2 k x hx
        have hg := HP.out.1 x (List.mem_of_getElem? hx)
        have hsz := Pr.size hg.key
        obtain ⟨cur, ty, fr, c1, c2, c3⟩ := hp
        rw [hsz] at c2 c3
        obtain ⟨C, hC⟩ : ∃ C, C = x.cells := ⟨_, rfl⟩
        obtain ⟨K, hK⟩ : ∃ K, K = brow x.key := ⟨_, rfl⟩
        have hone := Pr.one hg
        have hkey := Pr.at_key hg.key
        have hvv := Pr.at_val hg.key
        obtain ⟨xo, xc, hxv, _, _⟩ := hg.val.form
        obtain ⟨n, hnl⟩ : ∃ n, n = x.val.length := ⟨_, rfl⟩
        rw [hxv, ← hnl] at hvv
        rw [← hC] at c3 hsz hone hkey hvv
        rw [← hK] at hkey
        have HC := Lib.hid (And.intro (HA.out.row c1 id) (And.intro c2 (And.intro c3 (And.intro hsz (And.intro hone hkey)))))
        have HX := Lib.hid (And.intro hx (And.intro hK (And.intro hg.key hnl)))
        have HVV := Lib.hid hvv
        clear hk hkl hg hsz c1 c2 c3 hC hK hone hkey hxv hnl hx hvv
        go_upto_region 7 with (first
          | fail
          | ((with_reducible show wpList _ _ _ (⟨_, .load 101 _, _, _, _, _⟩ :: _) _ _); refine wpList_load_part rfl 101 _ rfl g0 (off + k * 33) rfl HC.out.1 Tryz.underlying101 rfl sizePr (by have := HC.out.2.1; omega) C HC.out.2.2.1 ?_)
          | ((with_reducible show wpList _ _ _ (⟨_, .alloc 101, _, _, _, _⟩ :: _) _ _); refine wpList_alloc_is rfl 101 rfl (.agg ZP) HZ.out.1 ?_; dsimp only [Value.cells]; try simp only [World.size_alloc])
          | ((with_reducible show wpList _ _ _ (⟨_, .store 101 _ _, _, _, _, _⟩ :: _) _ _); refine wpList_store_part rfl 101 _ _ rfl wr.heap.size 0 C rfl rfl (heap_alloc_new _ _) (by rw [sizePr, HC.out.2.2.2.1]) (by rw [HC.out.2.2.2.1, HZ.out.2]; omega) HC.out.2.2.2.2.1 C (by rw [splice_all _ _ (by rw [Array.length_toList, Array.length_toList, HC.out.2.2.2.1, HZ.out.2])]) ?_))
        obtain ⟨wx, hwx⟩ : ∃ wx, wx = (wr.alloc (.cells ZP 101)).setRow wr.heap.size C := ⟨_, rfl⟩
        rw [← hwx]
        have ax : Ch (fun _ => False) wr wx := by rw [hwx]; exact ((Ch.refl _ _).alloc _).setRow (.inr (Nat.le_refl _)) _
        have rx : wx.heap[wr.heap.size]? = some (.cells C 101 (0, 0)) := by rw [hwx]; exact row_setRow_same (heap_alloc_new wr (.cells ZP 101)) C
        have sx := HS.out.keep ax id
        have q32 := row_cell rx HVV.out
        have RX := Lib.hid rx
        have SX := Lib.hid sx
        have AX := Lib.hid (HA.out.trans ax (fun _ h => h.elim))
        clear hwx ax rx sx
        by_cases hb : 1024 < n
        · have hx2 : decide ((1024 : Int) < (n : Int)) = true := decide_eq_true (by omega)
          have hx2' : decide (1024 < n) = true := decide_eq_true (by omega)
          have HB := Lib.hid hb
          clear hb
          go_wp2
          go_ret2
          exact ⟨AX.out, _, _, rfl, .inr ⟨by decide, rfl⟩, ⟨fun h => absurd h (by decide), fun hf => absurd hf (not_fine_val HX.out.1 (by have := HB.out; have := HX.out.2.2.2; omega))⟩, fun h => absurd h (by decide)⟩
        · have hx2 : decide ((1024 : Int) < (n : Int)) = false := decide_eq_false (by omega)
          have hx2' : decide (1024 < n) = false := decide_eq_false (by omega)
          have HB := Lib.hid hb
          have hlk := SX.out.look HX.out.2.2.1
          rw [← HX.out.2.1] at hlk
          clear hb
          by_cases hm : x.key ∈ seen l k
          · rw [decide_eq_true hm] at hlk
            have HMM := Lib.hid hm
            clear hm
            go_wp2_with (first
              | fail
              | ((with_reducible show wpList _ _ _ (⟨_, .load 34 _, _, _, _, _⟩ :: _) _ _); refine wpList_load_part rfl 34 _ rfl wr.heap.size 0 rfl RX.out Tryz.underlying34 rfl sizeP (by rw [HC.out.2.2.2.1]; omega) K HC.out.2.2.2.2.2 ?_))
            go_ret2
            exact ⟨AX.out, _, _, rfl, .inr ⟨by decide, rfl⟩, ⟨fun h => absurd h (by decide), fun hf => absurd hf (not_fine_key HX.out.1 HMM.out)⟩, fun h => absurd h (by decide)⟩
          · rw [decide_eq_false hm] at hlk
            have HMM := Lib.hid hm
            clear hm
            go_wp2_with (first
              | fail
              | ((with_reducible show wpList _ _ _ (⟨_, .load 34 _, _, _, _, _⟩ :: _) _ _); refine wpList_load_part rfl 34 _ rfl wr.heap.size 0 rfl RX.out Tryz.underlying34 rfl sizeP (by rw [HC.out.2.2.2.1]; omega) K HC.out.2.2.2.2.2 ?_)
              | (at_mapUpdate; refine wp_setPut SX.out (by have := HL.out.2; unfold maxLen; omega) rfl _ _ _ rfl rfl x.key HX.out.2.2.1 (by rw [← HX.out.2.1]; rfl) rfl ?_; intro w5 set5 ch5))
            have A5 := Lib.hid (And.intro (And.intro set5 (AX.out.trans ch5 (fun k hk => .inr (by omega)))) trivial)
            clear set5 ch5 hlk q32
            go_wp2
            go_roundg (gk - 1)
            case measure => have := HKG.out; omega
            case rel =>
              refine ⟨k + 1, rfl, by have := HKG.out; omega, by rw [seen_next HX.out.1]; exact A5.out.1.1, fun y hy => ?_, nodup_next HX.out.1 HMM.out HV.out.2, A5.out.1.2⟩
              have htk : l.take (k + 1) = l.take k ++ [x] := by rw [List.take_add_one, HX.out.1]; rfl
              rw [htk, List.mem_append, List.mem_singleton] at hy
              rcases hy with hy | rfl
              · exact HV.out.1 y hy
              · have := HB.out; have := HX.out.2.2.2; omega
end Go.Proofs.YtpeebeebakjpdaaGreat.Law9
