/- The library's sort at a row of pairs: a permutation, rising by key. -/
import Derived.Test.YtmeglndnkdgkoaaGreatSortLay
import Derived.Test.YtmeglndnkdgkoaaGreatCmp
import Derived.Test.YtmeglndnkdgkoaaGreatPairs9
namespace Go.Proofs.YtmeglndnkdgkoaaGreat.Law9
open Go Go.RowKit Go.Sort Go.Proofs.YtmeglndnkdgkoaaGreat Go.Proofs.YtmeglndnkdgkoaaGreat.ShaW Go.Proofs.YtmeglndnkdgkoaaGreat.Path Go.Proofs.YtmeglndnkdgkoaaGreat.Store
set_option maxHeartbeats 1600000
set_option linter.unusedVariables false

/-- A pair whose cells have their form. -/
structure PrK where
  p : Pr
  len : p.key.length = 32
  one : p.vv.oneCell' = true
instance : Inhabited PrK := ⟨⟨⟨List.replicate 32 0, .slice none 0 0, []⟩, rfl, rfl⟩⟩
def encP (x : PrK) : List Value := x.p.cells.toList
theorem encP_len (x : PrK) : (encP x).length = 33 := by rw [encP, Array.length_toList]; exact Pr.size x.len
theorem encP_one (x : PrK) : ∀ v ∈ encP x, v.oneCell' = true := fun v hv => by
  unfold encP at hv
  rw [Pr.list] at hv
  rcases List.mem_append.1 hv with h | h
  · exact map_bv_one _ v h
  · simp at h; rw [h]; exact x.one
def cmpP (x y : PrK) : Int := Lib.compareBytes x.p.key y.p.key
theorem ltP (x y : PrK) : ltOf cmpP x y = decide (Lib.compareBytes x.p.key y.p.key < 0) := rfl
theorem swoP : SWO (ltOf cmpP) where
  irrefl x := by rw [ltP, cmp_self]; rfl
  trans x y z h1 h2 := by
    rw [ltP] at *
    exact decide_eq_true (cmp_lt_trans _ _ _ (of_decide_eq_true h1) (of_decide_eq_true h2))
  ntrans x y z h1 h2 := by
    rw [ltP] at *
    exact decide_eq_false (cmp_ge_trans _ _ _ (of_decide_eq_false h1) (of_decide_eq_false h2))
theorem grow_drewN (w : World) (os : Array Obj) (q : Nat) : (grow w os).drewN q = grow (w.drewN q) os := rfl
theorem closure_ok (x y : PrK) (W : World) : Calls Tryz.prog 215 #[.agg (encP x).toArray, .agg (encP y).toArray] W fun e w' => e = .returned (.int .i64 (cmpP x y)) ∧ ∃ q os, w' = grow (W.drewN q) os := by
  obtain ⟨A, hA⟩ : ∃ A, A = x.p.cells := ⟨_, rfl⟩
  obtain ⟨B, hB⟩ : ∃ B, B = y.p.cells := ⟨_, rfl⟩
  have hc := Compare_ok x.p.key y.p.key x.len y.len ((W.alloc (.cells A 159)).alloc (.cells B 159))
  have ka := Pr.at_key x.len
  have kb := Pr.at_key y.len
  have sa := Pr.size x.len
  have sb := Pr.size y.len
  unfold encP cmpP
  rw [Array.toArray_toList, Array.toArray_toList]
  rw [← hA] at ka sa ⊢
  rw [← hB] at kb sb ⊢
  obtain ⟨KA, hKA⟩ : ∃ K, K = brow x.p.key := ⟨_, rfl⟩
  obtain ⟨KB, hKB⟩ : ∃ K, K = brow y.p.key := ⟨_, rfl⟩
  rw [← hKA] at ka hc
  rw [← hKB] at kb hc
  generalize Lib.compareBytes x.p.key y.p.key = r at hc ⊢
  have g1 : ((W.alloc (.cells A 159)).alloc (.cells B 159)).heap[W.heap.size]? = some (.cells A 159 (0, 0)) := row_alloc (heap_alloc_new _ _) _
  have g2 : ((W.alloc (.cells A 159)).alloc (.cells B 159)).heap[W.heap.size + 1]? = some (.cells B 159 (0, 0)) := by
    have := heap_alloc_new (W.alloc (.cells A 159)) (.cells B 159)
    simpa using this
  have G1 := Lib.hid g1
  have G2 := Lib.hid g2
  have HC := Lib.hid hc
  have HK := Lib.hid (And.intro ka kb)
  have HS := Lib.hid (And.intro sa sb)
  clear hA hB hKA hKB g1 g2 hc ka kb sa sb
  go_enter Tryz.func215, Tryz.ntmps215
  go_wp2_with (first
    | fail
    | ((with_reducible show wpList _ _ _ (⟨_, .load 31 _, _, _, _, _⟩ :: _) _ _); refine wpList_load_part rfl 31 _ rfl W.heap.size 0 rfl G1.out Tryz.underlying31 rfl sizeP (by rw [HS.out.1]; omega) KA HK.out.1 ?_)
    | ((with_reducible show wpList _ _ _ (⟨_, .load 31 _, _, _, _, _⟩ :: _) _ _); refine wpList_load_part rfl 31 _ rfl (W.heap.size + 1) 0 rfl G2.out Tryz.underlying31 rfl sizeP (by rw [HS.out.2]; omega) KB HK.out.2 ?_))
  refine HC.out.mono ?_; rintro e w1 ⟨rfl, q, os, rfl⟩
  go_wp2
  go_ret
  refine ⟨rfl, q, #[.cells A 159, .cells B 159] ++ os, ?_⟩
  rw [alloc_eq_grow, alloc_eq_grow, grow_grow, grow_drewN, grow_grow]
  rfl
theorem cmpLays (blk off size : Nat) (w : World) : CmpLays Tryz.prog 215 #[] encP 33 cmpP blk off size w := fun _ _ _ _ x y => closure_ok x y _
/-! ### the row -/
theorem pairs_holds {w : World} {g : Nat} {t : TypeId} {cur : Array Value} {d : Array PrK} (hg : w.heap[g]? = some (.cells cur t (0, 0))) (hx : ∀ i x, d[i]? = some x → i * 33 + 33 ≤ cur.size ∧ cur.extract (i * 33) (i * 33 + 33) = x.p.cells) : HoldsK encP 33 w g 0 d := by
  intro j hj
  rw [size_flatK] at hj
  have hi : j / 33 < d.size := by omega
  obtain ⟨h1, h2⟩ := hx (j / 33) _ (Array.getElem?_eq_getElem hi)
  refine ⟨?_, row_free hg _⟩
  rw [get_flatK encP 33 d j hj]
  have hm : j % 33 < 33 := Nat.mod_lt _ (by omega)
  have hs := Pr.size (d[j / 33]).len
  have e1 : cur[j]? = some (encP d[j / 33]!)[j % 33]! := by
    have e2 : (cur.extract (j / 33 * 33) (j / 33 * 33 + 33))[j % 33]? = cur[j]? := by
      rw [Array.getElem?_extract, if_pos (by omega)]
      congr 1
      omega
    rw [← e2, h2, getElem!_pos d (j / 33) hi]
    unfold encP
    rw [getElem!_pos _ _ (by rw [Array.length_toList, hs]; exact hm), Array.getElem?_eq_getElem (by rw [hs]; exact hm)]
    simp
  rw [Nat.zero_add]
  exact row_cell hg e1
theorem holds_pairs {w : World} {g : Nat} {d : Array PrK} (h : HoldsK encP 33 w g 0 d) {i : Nat} {x : PrK} (hx : d[i]? = some x) : PartAt w g (0 + i * 33) x.p.cells := by
  have hi := (Array.getElem?_eq_some_iff.1 hx).1
  have hd : d[i]! = x := by rw [getElem!_pos d i hi]; exact (Array.getElem?_eq_some_iff.1 hx).2
  have := PartAt.of_cells (w := w) (g := g) (o := 0 + i * 33) (m := 33) (cs := encP x) (by omega) (encP_len x) (fun c hc => by
    have h1 := h (i * 33 + c) (by rw [size_flatK]; omega)
    rw [get_flatK encP 33 d _ (by omega), show (i * 33 + c) / 33 = i by omega, show (i * 33 + c) % 33 = c by omega, hd] at h1
    rw [show 0 + i * 33 + c = 0 + (i * 33 + c) by omega]
    rw [h1.1, List.getElem?_eq_getElem (by rw [encP_len]; exact hc), getElem!_pos _ _ (by rw [encP_len]; exact hc)]
    rfl)
  rwa [encP, Array.toArray_toList] at this
theorem sorted_ch (w : World) (g n : Nat) (d' : Array PrK) (os : Array Obj) : Ch (fun k => k = g) w (sortWorldK encP 33 w g 0 n d' os) := by
  unfold sortWorldK grow putRowK Go.Sort.putRow Go.Sort.mapBlock Go.Sort.ahead
  refine ⟨rfl, rfl, rfl, by simp, fun k hk hn => ?_⟩
  simp only [Array.getElem?_append, Array.size_modify, hk, if_true, Array.getElem?_modify]
  rw [if_neg (fun e => hn e.symm)]
theorem sort_ok {w : World} {g cap : Nat} {d : Array PrK} (hH : HoldsK encP 33 w g 0 d) (hg : g < w.heap.size) (hn : d.size < 4611686018427387904) :
    Calls Tryz.prog 214 #[.slice (some ⟨g, 0, none⟩) d.size cap, .func (.func 215) #[] #[]] w fun e w' => e = .returned (.tuple #[]) ∧
      ∃ d' : Array PrK, d'.size = d.size ∧ d'.toList.Perm d.toList ∧ d'.toList.Pairwise (fun x y => ¬ Lib.compareBytes y.p.key x.p.key < 0) ∧ HoldsK encP 33 w' g 0 d' ∧ Ch (fun k => k = g) w w' := by
  have eg : ∀ args w, (callFunc 215 args).run Tryz.prog w = .ok (.enter 215 args) w := enters_of Tryz.func215 (by kernel_rfl) rfl
  have hcon := AnyQ.slices_SortFunc sortPairs 33 Tryz.isAgg159 Tryz.sizeOf159 encP encP_len encP_one cmpP swoP 215 #[] g 0 cap d w eg (cmpLays g 0 d.size w) hH hg hn
  refine Calls.mono hcon fun e w' ⟨he, d', n, os, hp, hs, hw⟩ => ⟨he, d', hp.1, ?_, ?_, ?_, ?_⟩
  · have := hp.2.2
    rwa [show d'.extract 0 d.size = d' by rw [← hp.1, Array.extract_size], Array.extract_size] at this
  · rw [List.pairwise_iff_getElem]
    intro i j hi hj hij
    have hi' : i < d'.size := by simpa using hi
    have hj' : j < d'.size := by simpa using hj
    have := hs i j (Nat.zero_le _) hij (by rw [← hp.1]; exact hj')
    rw [ltP, getElem!_pos d' i hi', getElem!_pos d' j hj'] at this
    simpa using this
  · rw [hw]
    exact holdsK_sortWorldK_c encP 33 w g 0 d d' n os hH hg hp.1
  · rw [hw]
    exact sorted_ch w g n d' os
end Go.Proofs.YtmeglndnkdgkoaaGreat.Law9
