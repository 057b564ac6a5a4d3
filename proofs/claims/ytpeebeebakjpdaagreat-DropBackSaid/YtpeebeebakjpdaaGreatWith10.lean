/- Layer 10's statements: entries but for a key's; entries that may be; keys that came in. -/
import Derived.Test.YtpeebeebakjpdaaGreatPairs9
import Derived.Test.YtpeebeebakjpdaaGreatMapM
import Derived.Test.YtpeebeebakjpdaaGreatNode1
import Derived.Test.YtpeebeebakjpdaaGreatFill10
import Derived.Deep.LoopGhost
namespace Go.Proofs.YtpeebeebakjpdaaGreat.Law10
open Go Go.RowKit Go.Proofs.YtpeebeebakjpdaaGreat Go.Proofs.YtpeebeebakjpdaaGreat.ShaW Go.Proofs.YtpeebeebakjpdaaGreat.Path Go.Proofs.YtpeebeebakjpdaaGreat.Store Go.Proofs.YtpeebeebakjpdaaGreat.Law9 Go.Deep Go.ChangeShapes Go.WideShapes Go.ChangeAt
set_option maxHeartbeats 3200000
set_option linter.unusedVariables false

def withoutP (l : List Pr) (k : List UInt8) : List Pr := l.filter (fun p => !(p.key == k))
theorem withoutP_next {l : List Pr} {k : Nat} {x : Pr} {key : List UInt8} (hx : l[k]? = some x) : withoutP (l.take (k + 1)) key = withoutP (l.take k) key ++ (if x.key = key then [] else [x]) := by
  have htk : l.take (k + 1) = l.take k ++ [x] := by rw [List.take_add_one, hx]; rfl
  unfold withoutP
  rw [htk, List.filter_append]
  congr 1
  by_cases e : x.key = key
  · rw [if_pos e]; simp [e]
  · rw [if_neg e]; simp [e]
theorem withoutP_len (l : List Pr) (k : List UInt8) : (withoutP l k).length ≤ l.length := List.length_filter_le _ _
theorem withoutP_mem {l : List Pr} {k : List UInt8} {x : Pr} (h : x ∈ withoutP l k) : x ∈ l := (List.mem_filter.1 h).1
theorem withoutP_ents (l : List Pr) (k : List UInt8) : (withoutP l k).map Pr.ent = without (l.map Pr.ent) k := by
  unfold withoutP without
  rw [List.filter_map]
  rfl
theorem withoutP_lt (l : List Pr) (k : List UInt8) : (withoutP l k).length < l.length ↔ k ∈ l.map (·.key) := by
  unfold withoutP
  induction l with
  | nil => simp
  | cons x l ih =>
    have hle := List.length_filter_le (fun p : Pr => !(p.key == k)) l
    rw [List.filter_cons]
    by_cases e : x.key = k
    · simp [e]; omega
    · have e2 : ¬ k = x.key := fun h => e h.symm
      simp only [show (!(x.key == k)) = true by simpa using e, if_true, List.length_cons, List.map_cons, List.mem_cons, e2, false_or]
      rw [← ih]
      omega
theorem FineP.without {l : List Pr} (h : FineP l) (k : List UInt8) : FineP (withoutP l k) :=
  ⟨Nat.le_trans (withoutP_len l k) h.1, fun x hx => h.2.1 x (withoutP_mem hx), h.2.2.sublist (List.filter_sublist.map _)⟩
/-- Unlike keys: what is told is what is there. -/
theorem pairs_self {l : List Pr} (h : (l.map (·.key)).Nodup) : ∀ k, k ≤ l.length → Pairs (l.take k) (l.take k)
  | 0, _ => by rw [List.take_zero]; exact .nil
  | k + 1, hk => by
    obtain ⟨x, hx⟩ : ∃ x, l[k]? = some x := ⟨_, List.getElem?_eq_getElem (by omega)⟩
    have htk : l.take (k + 1) = l.take k ++ [x] := by rw [List.take_add_one, hx]; rfl
    rw [htk]
    refine .new (pairs_self h k (by omega)) fun q hq e => ?_
    have hn : ((l.take (k + 1)).map (·.key)).Nodup := h.sublist ((List.take_sublist _ _).map _)
    rw [htk, List.map_append, List.nodup_append] at hn
    exact hn.2.2 _ (List.mem_map_of_mem hq) _ (by simp) e
theorem entsOf_perm {l : List Pr} (h : (l.map (·.key)).Nodup) : (entsOf l).Perm (l.map Pr.ent) := by
  have := pairs_self h l.length (Nat.le_refl _)
  rw [List.take_length] at this
  exact pairs_ents this
set_option maxRecDepth 100000 in
theorem without_ok {w : World} {ao : Option Addr} {l : List Pr} (cap : Nat) {key : List UInt8} (hk : key.length = 32) (h : PairsAt w ao l) (hlen : l.length ≤ 16) :
    Calls Tryz.prog 22 #[.slice ao l.length cap, .agg (brow key)] w fun e w' => ∃ v, e = .returned (.tuple #[v, .bool (decide ((withoutP l key).length < l.length))]) ∧ RowP w' w.heap.size v (withoutP l key) ∧ Adds w w' := by
  obtain ⟨K, hK⟩ : ∃ K, K = brow key := ⟨_, rfl⟩
  have hKs : K.size = 32 := by rw [hK, brow_size]; exact hk
  rw [← hK]
  obtain ⟨wb, hwb⟩ : ∃ wb, wb = w.alloc (.cells K 34) := ⟨_, rfl⟩
  have hab : Adds w wb := by rw [hwb]; exact (Ch.refl _ _).alloc _
  have hrb : wb.heap[w.heap.size]? = some (.cells K 34 (0, 0)) := by rw [hwb]; exact heap_alloc_new _ _
  obtain ⟨b0, hb0⟩ : ∃ b0, b0 = w.heap.size := ⟨_, rfl⟩
  rw [← hb0] at hrb
  have hbs : b0 < wb.heap.size := row_lt hrb
  have HL := Lib.hid (h.keep hab (fun _ h => h.elim))
  have HB := Lib.hid (And.intro hwb (And.intro hab (And.intro hrb (And.intro hb0 hbs))))
  have HK := Lib.hid (And.intro hK (And.intro hKs hk))
  obtain ⟨len, hle⟩ : ∃ len, len = l.length := ⟨_, rfl⟩
  rw [← hle] at hlen ⊢
  have HLE := Lib.hid hle
  clear h hle hK hKs hab hrb hwb hbs hk
  go_enter Tryz.func22, Tryz.ntmps22
  go_wp2_with fail
  rw [← HB.out.1]
  rw [← HB.out.2.2.2.1]
  clear hb0
  go_loopg [6, 7] len (fun g s6 s7 wr => ∃ k : Nat, s7 = .int .i64 k ∧ k + g = len ∧ RowP wr wb.heap.size s6 (withoutP (l.take k) key) ∧ Adds wb wr)
  case atStart => exact ⟨0, rfl, by omega, by rw [List.take_zero]; exact RowP.nil _ _, Ch.refl _ _⟩
  case round =>
    obtain ⟨k, rfl, hk, hrow, hA⟩ := hrel
    obtain ⟨oo, oc, rfl⟩ := hrow.form
    have HR := Lib.hid (And.intro hrow hA)
    have HKG := Lib.hid hk
    by_cases hkl : k = len
    · have hx1 : decide ((k : Int) < (len : Int)) = false := decide_eq_false (by omega)
      have hx1' : decide (k < len) = false := decide_eq_false (by omega)
      have hl9 := HR.out.1
      rw [List.take_of_length_le (by have := HLE.out; omega)] at hl9
      have H9 := Lib.hid hl9
      have hno : (withoutP (l.take k) key).length = (withoutP l key).length := by rw [List.take_of_length_le (by have := HLE.out; omega)]
      rw [hno]
      rw [List.take_of_length_le (by have := HLE.out; omega)] at HR
      obtain ⟨no, hno2⟩ : ∃ no, no = (withoutP l key).length := ⟨_, rfl⟩
      have hnl : no ≤ 16 := by rw [hno2]; exact Nat.le_trans (withoutP_len l key) (by have := HLE.out; omega)
      rw [← hno2]
      have HNO := Lib.hid hno2
      clear hk hrow hA hno hno2 hl9 hkl
      go_wp2
      go_ret2
      rw [HNO.out] at *
      exact ⟨_, rfl, (show RowP _ _ _ _ from H9.out).base (fun k hk => Nat.le_of_lt (Nat.lt_of_lt_of_le (by have := HB.out.2.2.2.2; have := HB.out.2.2.2.1; omega) ((show RowP _ _ _ _ from H9.out).lt k hk).1)), HB.out.2.1.trans HR.out.2 (fun _ h => h.elim)⟩
    · have hx1 : decide ((k : Int) < (len : Int)) = true := decide_eq_true (by omega)
      have hx1' : decide (k < len) = true := decide_eq_true (by omega)
      have hkl' : k < l.length := by have := HLE.out; omega
      have hklen : (k : Int) < (len : Int) := by omega
      have hklen' : k < len := by omega
      obtain ⟨x, hx⟩ : ∃ x, l[k]? = some x := ⟨_, List.getElem?_eq_getElem hkl'⟩
      obtain ⟨g0, off, rfl, hp⟩ := HL.out.2 k x hx
      have hg := HL.out.1 x (List.mem_of_getElem? hx)
      have hsz := Pr.size hg.key
      obtain ⟨cur, ty, fr, c1, c2, c3⟩ := hp
      rw [hsz] at c2 c3
      obtain ⟨ck, cv⟩ := pair_parts hg.key c3
      have hnx := withoutP_next (key := key) hx
      have hlo : (withoutP (l.take k) key).length ≤ 16 := by have h1 := withoutP_len (l.take k) key; rw [List.length_take] at h1; omega
      obtain ⟨out, hout⟩ : ∃ out, out = withoutP (l.take k) key := ⟨_, rfl⟩
      rw [← hout] at hnx hlo HR
      rw [← hout]
      have hneq := neq_keys 34 Tryz.underlying34 x.key key hg.key HK.out.2.2
      obtain ⟨KX, hKX⟩ : ∃ K, K = brow x.key := ⟨_, rfl⟩
      rw [← hKX, ← HK.out.1] at hneq
      rw [← hKX] at ck
      have hrg := hA.row c1 id
      have hrk := hA.row HB.out.2.2.1 id
      have HC := Lib.hid (And.intro hrg (And.intro c2 (And.intro c3 (And.intro ck (And.intro cv hrk)))))
      have HG := Lib.hid hg
      have HX := Lib.hid (And.intro hx hnx)
      have HKS := Lib.hid HK.out.2.1
      clear hk hrow hA hg hsz c1 c2 c3 ck cv hx hkl hnx hKX hrg hrk hout
      obtain ⟨eb, heb⟩ : ∃ eb, eb = decide (x.key = key) := ⟨_, rfl⟩
      rw [← heb] at hneq
      have HEB := Lib.hid heb
      clear heb
      go_wp2
      refine wp_region_plan (fun w0 => w0.heap[g0]? = some (.cells cur ty fr) ∧ w0.heap[b0]? = some (.cells K 34 (0, 0))) 7 [(0, false), (1, false), (2, false), (3, false), (4, false), (5, false), (6, false)] (by kernel_rfl) (by kernel_rfl) ?_ ?_
      · exact ⟨row_drew HC.out.1, row_drew HC.out.2.2.2.2.2⟩
      iterate 4
        refine plan_look rfl rfl (fun w0 hS => (by clear hS; go_simp; try rfl)) ?_
        simp only [Act.put, List.setIfInBounds_toArray, List.set_cons_succ, List.set_cons_zero]
      refine plan_load_part (cur := cur) (t := ty) (fr := fr) rfl rfl 34 _ rfl g0 (off + k * 33) 32 rfl (fun w0 hS => hS.1) Tryz.underlying34 rfl sizeP (by have := HC.out.2.1; omega) KX HC.out.2.2.2.1 ?_
      simp only [Act.put, List.setIfInBounds_toArray, List.set_cons_succ, List.set_cons_zero]
      refine plan_load_part (cur := K) (t := 34) (fr := (0, 0)) rfl rfl 34 _ rfl b0 0 32 rfl (fun w0 hS => hS.2) Tryz.underlying34 rfl sizeP (by rw [HKS.out]; omega) K (by have := HKS.out; simp [← this]) ?_
      simp only [Act.put, List.setIfInBounds_toArray, List.set_cons_succ, List.set_cons_zero]
      cases eb with
      | true =>
        simp only [Bool.not_true] at hneq
        refine plan_look (v := .bool false) rfl rfl (fun w0 hS => (by clear hS; go_simp; try rfl)) ?_
        simp only [Act.put, List.setIfInBounds_toArray, List.set_cons_succ, List.set_cons_zero]
        refine plan_end ?_; simp only [List.drop_succ_cons, List.drop_zero]
        go_wp2
        refine NoPanic.normal ?_
        have hn2 := HX.out.2
        rw [if_pos (of_decide_eq_true HEB.out.symm), List.append_nil] at hn2
        have HN2 := Lib.hid hn2
        clear hn2 hneq
        go_wp2_with fail
        go_roundg (gk - 1)
        case measure => have := HKG.out; omega
        case rel => exact ⟨k + 1, by simp, by have := HKG.out; omega, by rw [HN2.out]; exact HR.out.1.drew, HR.out.2.drew⟩
      | false =>
        simp only [Bool.not_false] at hneq
        refine plan_look (v := .bool true) rfl rfl (fun w0 hS => (by clear hS; go_simp; try rfl)) ?_
        simp only [Act.put, List.setIfInBounds_toArray, List.set_cons_succ, List.set_cons_zero]
        refine plan_end ?_; simp only [List.drop_succ_cons, List.drop_zero]
        go_wp2
        refine NoPanic.normal ?_
        have hn2 := HX.out.2
        rw [if_neg (of_decide_eq_false HEB.out.symm)] at hn2
        have HN2 := Lib.hid hn2
        obtain ⟨C, hC⟩ : ∃ C, C = x.cells := ⟨_, rfl⟩
        have hCs : C.size = 33 := by rw [hC]; exact Pr.size HG.out.key
        have hC1 : ∀ v ∈ C.toList, v.oneCell' = true := by rw [hC]; exact Pr.one HG.out
        have c3 := HC.out.2.2.1
        rw [← hC] at c3
        obtain ⟨wd, hwd⟩ : ∃ wd, wd = wr.drew := ⟨_, rfl⟩
        rw [← hwd]
        have hrd : wd.heap[g0]? = some (.cells cur ty fr) := by rw [hwd]; exact row_drew HC.out.1
        have hRd : RowP wd wb.heap.size (.slice oo out.length oc) out := by rw [hwd]; exact HR.out.1.drew
        have hAd : Adds wb wd := by rw [hwd]; exact HR.out.2.drew
        have HCC := Lib.hid (And.intro hCs (And.intro hC1 (And.intro c3 (And.intro hrd hC))))
        have HD := Lib.hid (And.intro hRd hAd)
        obtain ⟨i0, z0, p1, p2, p3, p4, p5⟩ := pair_info
        have HI := Lib.hid (And.intro p1 (And.intro p2 (And.intro p3 (And.intro p4 p5))))
        clear hn2 hneq hC hCs hC1 c3 hrd hRd hAd p1 p2 p3 p4 p5 hwd
        go_wp2_with (first
          | fail
          | ((with_reducible show wpList _ _ _ (⟨_, .load 101 _, _, _, _, _⟩ :: _) _ _); refine wpList_load_part rfl 101 _ rfl g0 (off + k * 33) rfl HCC.out.2.2.2.1 Tryz.underlying101 rfl sizePr (by have := HC.out.2.1; omega) C HCC.out.2.2.1 ?_)
          | ((with_reducible show wpList _ _ _ (⟨_, .buildSlice 50 _ _, _, _, _, _⟩ :: _) _ _); refine wpList_buildSlice_one rfl 50 _ rfl 101 i0 z0 (.agg C) rfl Tryz.underlying50 HI.out.1 HI.out.2.1 (by rw [HI.out.2.2.1]; decide) (by rw [HI.out.2.2.1]; decide) (by rw [HI.out.2.2.1]; exact HCC.out.1) ?_)
          | (at_builtin; refine wpList_append_mine rfl _ _ 50 rfl 101 i0 z0 33 56 Tryz.underlying50 HI.out.1 HI.out.2.1 HI.out.2.2.1 HI.out.2.2.2.1 HI.out.2.2.2.2 (by decide) (.slice oo out.length oc) out.length (flatP out) rfl ((HD.out.1.alloc _).base (fun _ _ => Nat.zero_le _)) ⟨wd.heap.size, 0, none⟩ 1 1 C.toList rfl (by rw [Array.length_toList, HCC.out.1]) (row_news (heap_alloc_new wd (.cells C 101))) HCC.out.2.1 (by unfold maxLen; omega) (by omega) ?_; intro v' w4 own' grow' loc'))
        obtain ⟨o4, c4, hv4⟩ := owns_form own'
        subst hv4
        have hA4 : Adds wb w4 := (HD.out.2.alloc _).grown grow' (fun k hk => .inr (HD.out.1.lt k hk).1)
        have hrow4 : RowP w4 wb.heap.size (.slice o4 (out.length + 1) c4) (out ++ [x]) := by
          have hb : ∀ k, (Value.slice o4 (out.length + 1) c4).ownBlock = some k → wb.heap.size ≤ k := fun k hk => by
            rcases loc' with e | e
            · rw [e] at hk
              exact (HD.out.1.lt k hk).1
            · have h1 := e k hk
              have h2 := HD.out.2.size
              simp at h1
              omega
          have hfl : flatP (out ++ [x]) = flatP out ++ C.toList := by rw [HCC.out.2.2.2.2, flatP_append]; simp [flatP]
          unfold RowP
          rw [hfl, List.length_append, List.length_singleton]
          exact own'.base hb
        have H4 := Lib.hid (And.intro hrow4 hA4)
        clear own' grow' loc' hA4 hrow4
        go_wp2_with fail
        go_roundg (gk - 1)
        case measure => have := HKG.out; omega
        case rel => exact ⟨k + 1, by simp, by have := HKG.out; omega, by rw [HN2.out]; exact H4.out.1, H4.out.2⟩
set_option maxRecDepth 100000 in
theorem unlike_ok {w : World} {ao : Option Addr} {l : List Pr} (cap : Nat) (h : PairsAt w ao l) :
    Calls Tryz.prog 20 #[.slice ao l.length cap] w fun e w' => ∃ b, e = .returned (.bool b) ∧ (b = true ↔ l.length ≤ 14 ∧ FineP l) ∧ Adds w w' := by
  obtain ⟨Z, hZ⟩ : ∃ Z, Z = brow (List.replicate 32 0) := ⟨_, rfl⟩
  have hzh := zeroH
  rw [← hZ] at hzh
  have hZs : Z.size = 32 := by rw [hZ]; rfl
  have HZ := Lib.hid (And.intro hzh hZs)
  have hrt := Root_ok cap h
  obtain ⟨len, hlen⟩ : ∃ len, len = l.length := ⟨_, rfl⟩
  rw [← hlen] at hrt ⊢
  have HRT := Lib.hid hrt
  clear hzh hZs hZ h hrt hlen
  go_enter Tryz.func20, Tryz.ntmps20
  go_wp2_with fail
  refine HRT.out.mono ?_; rintro e w2 ⟨a2, hb, c, rfl, hl, hc, _⟩
  obtain ⟨O, hO⟩ : ∃ O, O = brow hb := ⟨_, rfl⟩
  have hos : O.size = 32 := by rw [hO, brow_size]; exact hl
  have ho1 := brow_one hb
  rw [← hO] at ho1 ⊢
  have HO := Lib.hid (And.intro hos ho1)
  have A2 := Lib.hid a2
  have HC := Lib.hid hc
  clear hl hO hos ho1 a2 hc
  have hce : ∀ P : Bool → Prop, (c = 0 → P true) → (c ≠ 0 → P false) → P (decide (c = 0)) := fun P h1 h2 => by
    by_cases e : c = 0
    · rw [decide_eq_true e]; exact h1 e
    · rw [decide_eq_false e]; exact h2 e
  have HCE := Lib.hid hce
  clear hce
  by_cases h14 : len ≤ 14
  · have hd1 : decide ((len : Int) ≤ 14) = true := decide_eq_true (by omega)
    have hd1' : decide (len ≤ 14) = true := decide_eq_true h14
    by_cases hc0 : c = 0
    · have HFN := Lib.hid (HC.out.1 hc0)
      subst hc0
      clear HC
      go_wp2_with (first
        | fail
        | ((with_reducible show wpList _ _ _ (⟨_, .alloc 58, _, _, _, _⟩ :: _) _ _); refine wpList_alloc_is rfl 58 rfl (.agg Z) HZ.out.1 ?_; dsimp only [Value.cells]; try simp only [World.size_alloc])
        | ((with_reducible show wpList _ _ _ (⟨_, .store 58 _ _, _, _, _, _⟩ :: _) _ _); refine wpList_store_part rfl 58 _ _ rfl w2.heap.size 0 O rfl rfl (heap_alloc_new _ _) (by rw [sizeH, HO.out.1]) (by rw [HO.out.1, HZ.out.2]; omega) HO.out.2 O (by rw [splice_all _ _ (by rw [Array.length_toList, Array.length_toList, HO.out.1, HZ.out.2])]) ?_))
      go_ret
      exact ⟨true, rfl, ⟨fun _ => ⟨h14, HFN.out⟩, fun _ => rfl⟩, (A2.out.alloc _).setRow (.inr A2.out.size) _⟩
    · have hcn : (c == 0) = false := by simpa using hc0
      have hcd : decide (c = 0) = false := decide_eq_false hc0
      have H0 := Lib.hid hc0
      clear hc0
      go_wp2_with (first
        | fail
        | ((with_reducible show wpList _ _ _ (⟨_, .alloc 58, _, _, _, _⟩ :: _) _ _); refine wpList_alloc_is rfl 58 rfl (.agg Z) HZ.out.1 ?_; dsimp only [Value.cells]; try simp only [World.size_alloc])
        | ((with_reducible show wpList _ _ _ (⟨_, .store 58 _ _, _, _, _, _⟩ :: _) _ _); refine wpList_store_part rfl 58 _ _ rfl w2.heap.size 0 O rfl rfl (heap_alloc_new _ _) (by rw [sizeH, HO.out.1]) (by rw [HO.out.1, HZ.out.2]; omega) HO.out.2 O (by rw [splice_all _ _ (by rw [Array.length_toList, Array.length_toList, HO.out.1, HZ.out.2])]) ?_))
      go_ret
      exact ⟨false, rfl, ⟨fun h => (by cases h), fun h => absurd (HC.out.2 h.2) H0.out⟩, (A2.out.alloc _).setRow (.inr A2.out.size) _⟩
  · have hd1 : decide ((len : Int) ≤ 14) = false := decide_eq_false (by omega)
    have hd1' : decide (len ≤ 14) = false := decide_eq_false h14
    have H14 := Lib.hid h14
    clear h14
    go_wp2_with (first
      | fail
      | ((with_reducible show wpList _ _ _ (⟨_, .alloc 58, _, _, _, _⟩ :: _) _ _); refine wpList_alloc_is rfl 58 rfl (.agg Z) HZ.out.1 ?_; dsimp only [Value.cells]; try simp only [World.size_alloc])
      | ((with_reducible show wpList _ _ _ (⟨_, .store 58 _ _, _, _, _, _⟩ :: _) _ _); refine wpList_store_part rfl 58 _ _ rfl w2.heap.size 0 O rfl rfl (heap_alloc_new _ _) (by rw [sizeH, HO.out.1]) (by rw [HO.out.1, HZ.out.2]; omega) HO.out.2 O (by rw [splice_all _ _ (by rw [Array.length_toList, Array.length_toList, HO.out.1, HZ.out.2])]) ?_))
    go_ret
    exact ⟨false, rfl, ⟨fun h => (by cases h), fun h => absurd h.1 H14.out⟩, (A2.out.alloc _).setRow (.inr A2.out.size) _⟩
/-- Keys that came in. -/
def KeysAt (w : World) (ao : Option Addr) (l : List (List UInt8)) : Prop := ∀ i x, l[i]? = some x → x.length = 32 ∧ ∃ (g off : Nat), ao = some ⟨g, off, none⟩ ∧ PartAt w g (off + i * 32) (brow x)
theorem KeysAt.keep {F : Nat → Prop} {w w' : World} {ao : Option Addr} {l : List (List UInt8)} (h : KeysAt w ao l) (hc : Ch F w w') (hF : ∀ k, F k → w.heap.size ≤ k) : KeysAt w' ao l := fun i x hi => by
  obtain ⟨h0, g, off, h1, h3⟩ := h i x hi
  refine ⟨h0, g, off, h1, h3.keep hc (fun hf => ?_)⟩
  obtain ⟨cur, t, fr, hr, _⟩ := h3
  have := row_lt hr
  have := hF g hf
  omega
section
variable {H : Type} {enc : TypeId × Value → H} {W : World} {base : Nat}
set_option maxRecDepth 100000 in
theorem opened_keys {v : Value} {d : DataW H} {p : List MemPlace} (hv : Value.okWide Tryz.prog W .any base 64 v)
    (h : DataW.Trod enc Tryz.prog W 0 (fun _ => true) true 64 v d p) : ∃ ao l cap, v = .slice ao (List.length l) cap ∧ KeysAt W ao l := by
  obtain ⟨ao, len, cap, rfl⟩ := okWide_slice Tryz.underlying64 hv
  obtain ⟨m, hm⟩ := h
  rcases open_slice Tryz.underlying64 hm with ⟨h0, _⟩ | ⟨a, l, c, mm, n, D, Pl, hcs, hb, hl, hc, hmm, hx, hi⟩
  · simp only [Value.cells, List.cons.injEq, Value.slice.injEq, and_true] at h0
    obtain ⟨rfl, rfl, rfl⟩ := h0
    exact ⟨_, [], _, rfl, fun i x hi => (by simp at hi)⟩
  · simp only [Value.cells, List.cons.injEq, Value.slice.injEq, and_true] at hcs
    obtain ⟨rfl, rfl, rfl⟩ := hcs
    have one : ∀ i, i < len → ∃ x : List UInt8, x.length = 32 ∧ ∃ g off, a = ⟨g, off, none⟩ ∧ PartAt W g (off + i * 32) (brow x) := fun i hil => by
      obtain ⟨cs', h1, h2⟩ := hi i (by rw [hmm]; simp only [if_true]; exact Nat.lt_of_lt_of_le hil hl)
      rw [cells_path] at h1
      obtain ⟨x, rfl, hg⟩ := read_key h2
      obtain ⟨_, hlen, h3⟩ := World.cells?_some h1
      obtain ⟨g, off, spot⟩ := a
      cases spot with
      | none =>
        refine ⟨x, hg, g, off, rfl, ?_⟩
        have := PartAt.of_cells (w := W) (g := g) (o := off + i * 32) (m := 32) (cs := x.map bv) (by omega) hlen (fun j hj => by have := h3 j hj; simpa only [add_plain] using this)
        exact this
      | some s =>
        exfalso
        obtain ⟨cs', h1, h2⟩ := hi 0 (by rw [hmm]; simp only [if_true]; exact Nat.lt_of_lt_of_le (Nat.lt_of_le_of_lt (Nat.zero_le _) hil) hl)
        rw [cells_path] at h1
        obtain ⟨x, rfl, hg⟩ := read_key h2
        obtain ⟨_, hlen, h3⟩ := World.cells?_some h1
        have k0 := h3 0 (by omega)
        rw [cell_spot _ _ (by simp [Addr.add])] at k0
        have hp : 0 < (x.map bv).length := by rw [hlen]; omega
        rw [List.getElem?_eq_getElem hp] at k0
        cases k0
    have hB : ∃ B : Nat → List UInt8, ∀ i, i < len → (B i).length = 32 ∧ ∃ g off, a = ⟨g, off, none⟩ ∧ PartAt W g (off + i * 32) (brow (B i)) := by
      refine ⟨fun i => if hi : i < len then Classical.choose (one i hi) else [], fun i hi => ?_⟩
      simp only [dif_pos hi]
      exact Classical.choose_spec (one i hi)
    obtain ⟨B, hB⟩ := hB
    refine ⟨some a, (List.range len).map B, cap, by simp, fun i x hi => ?_⟩
    have hil : i < len := by
      have := (List.getElem?_eq_some_iff.1 hi).1
      simpa using this
    have : x = B i := by simp [hil] at hi; exact hi.symm
    subst this
    obtain ⟨h0, g, off, h1, h2⟩ := hB i hil
    exact ⟨h0, g, off, by rw [h1], h2⟩
end
end Go.Proofs.YtpeebeebakjpdaaGreat.Law10
