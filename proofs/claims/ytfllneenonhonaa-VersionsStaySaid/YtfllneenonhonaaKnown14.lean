/- VersionsKnown: the document's examples: the walk. -/
import Derived.Test.YtfllneenonhonaaOne14
import Derived.Test.YtfllneenonhonaaVersR
namespace Go.Proofs.Ytfllneenonhonaa.Law14
open Go Go.RowKit Go.Proofs.Ytfllneenonhonaa Go.Proofs.Ytfllneenonhonaa.ShaW Go.Proofs.Ytfllneenonhonaa.Path Go.Proofs.Ytfllneenonhonaa.Store Go.Proofs.Ytfllneenonhonaa.Law9
set_option maxHeartbeats 3200000
set_option linter.unusedVariables false

def nmA : List UInt8 := [97]
def nmNone : List UInt8 := [110, 111, 110, 101]
def nmMore : List UInt8 := [111, 110, 101, 45, 109, 111, 114, 101]
def nmX (k : Nat) : List UInt8 := [120, UInt8.ofNat (97 + k)]
/-- The names behind so many of the loop's calls. -/
def nusX (k : Nat) : Nms := (List.range k).foldl (fun ν i => ν.set (nmX i) 0) [(nmNone, 0)]
theorem nusX_next (k : Nat) : nusX (k + 1) = (nusX k).set (nmX k) 0 := by unfold nusX; rw [List.range_succ, List.foldl_append]; rfl
theorem nusX_ok : ∀ k, k < 15 → nameB (nmX k) = true ∧ nmX k ∉ (nusX k).names ∧ (nusX k).length = k + 1 := by decide +kernel
theorem nusX_end : (nusX 15).length = 16 ∧ nmMore ∉ (nusX 15).names ∧ nmNone ∈ (nusX 15).names ∧ nameB nmMore = true ∧ nameB nmNone = true ∧ nameB [50] = false ∧ nameB [98] = true := by decide +kernel
section
variable {w0 w w' : World} {s v tt : Nat} {r : Int} {σ σ' : SlabSt Nd} {ν : Nms} {R : List (Int × Ents)}
theorem rootErr_zero : rootErr σ 0 = 0 := by unfold rootErr; rw [if_pos rfl]
/-- A name for no root. -/
theorem St14.add0 (h : St14 w0 w s v r σ ν R tt) {x : List UInt8} (hn : nameB x = true) (hx : x ∉ ν.names) (hl : ν.length < 16) :
    Calls Try.prog 34 #[.pointer (some ⟨v, 0, none⟩), .string (bstr x), .int .i64 0] w fun e w' => e = .returned (.int .i64 0) ∧ St14 w0 w' s v r σ (ν.set x 0) R tt := by
  have hc : addErr σ ν x 0 = 0 := by
    unfold addErr
    rw [if_neg (by rw [hn]; decide), if_neg (by rw [rootErr_zero]; simp), if_neg hx, if_neg (by omega)]
  refine (h.vs.add (name_len hn) hc (fun h => absurd rfl h) (by decide)).mono fun e w' ⟨he, hv, _⟩ => ⟨he, ?_⟩
  have e0 : holdV σ 0 = σ := by unfold holdV; rw [if_pos rfl]
  rw [e0] at hv
  exact ⟨hv, h.roots, h.ne, h.room, h.live, h.total, h.span⟩
/-- The root's name is let go: its leaf becomes free. -/
theorem St14.cut1 (h : St14 w0 w s v r σ ν [(r, ent1)] tt) {x : List UInt8} (hx : x.length ≤ maxLen) (hin : x ∈ ν.names) (hr : ν.get x = r) :
    Calls Try.prog 42 #[.pointer (some ⟨v, 0, none⟩), .string (bstr x)] w fun e w' => ∃ σ', e = .returned (.tuple #[.int .i64 1, .int .i64 0]) ∧ St14 w0 w' s v r σ' (ν.cut x) [] tt ∧ Store.live σ' = 0 := by
  obtain ⟨g0, g1, g2, g3, g4⟩ := h.roots.drop h.ne
  have hl1 : Store.live σ = 1 := by
    rw [h.roots.live (p := (r, ent1)) (List.mem_cons_self ..) (fun q hq => .inr (by rw [List.mem_singleton.1 hq]))]
    exact tree1
  have hl0 : Store.live (dropS σ r).2.2 = 0 := live_nodes g1.good (root := 0) .nil (fun k hk => by
    by_cases e : k = 0
    · exact e
    · rw [g1.held k e] at hk
      simp [Store.roots] at hk)
  have hd := (dropS_sound h.roots.good.sound r).2.1
  have h1 : (dropS σ r).1 = 1 := by rw [hl1, hl0] at hd; omega
  refine (h.vs.cut hx hin hr).mono fun e w' ⟨he, hv, _⟩ => ⟨dropV σ r, ?_, ?_, ?_⟩
  · rw [he, if_neg h.ne, h1]
  · have e0 : dropV σ r = (dropS σ r).2.2 := by unfold dropV; rw [if_neg h.ne]
    rw [e0] at hv ⊢
    exact ⟨hv, g1, h.ne, g4.trans h.room, Nat.le_trans g2 h.live, Nat.le_trans g3 h.total, by rw [span_dropS]; exact h.span⟩
  · have e0 : dropV σ r = (dropS σ r).2.2 := by unfold dropV; rw [if_neg h.ne]
    rw [e0]
    exact hl0
theorem St14.occupied (h : St14 w0 w s v r σ ν R tt) (hl : Store.live σ = 0) : Calls Try.prog 43 #[.pointer (some ⟨s, 0, none⟩)] w fun e w' => e = .returned (.int .i64 0) ∧ w = w' := by
  obtain ⟨F, hF⟩ := h.at
  have := Occupied_ok hF
  rw [h.roots.good.used, hl] at this
  exact this
end
theorem sort_two (r : Int) : sortN (Nms.set (Nms.set [] nmA r) nmNone 0) = [nmA, nmNone] := by
  have hp : (Nms.names (Nms.set (Nms.set [] nmA r) nmNone 0)).Perm [nmA, nmNone] := by
    have : Nms.names (Nms.set (Nms.set [] nmA r) nmNone 0) = [nmNone, nmA] := by
      rfl
    rw [this]
    exact List.Perm.swap _ _ _
  unfold sortN
  rw [mergeSort_of_perm hp]
  exact List.mergeSort_of_pairwise (by decide)
theorem get_two (r : Int) : ([nmA, nmNone].map (Nms.get (Nms.set (Nms.set [] nmA r) nmNone 0))) = [r, 0] := by
  simp only [List.map_cons, List.map_nil]
  rw [Nms.get_same, Nms.get_set (by decide), Nms.get_same]
theorem names_two (r : Int) : Nms.names (Nms.set (Nms.set [] nmA r) nmNone 0) = [nmNone, nmA] := by
  rfl
theorem cut_two (r : Int) : Nms.cut (Nms.set (Nms.set [] nmA r) nmNone 0) nmA = [(nmNone, 0)] := by
  rfl
theorem rootErr_far {σ : SlabSt Nd} {n : Int} (h : (σ.slots.length : Int) < n) (h0 : n ≠ 0) : rootErr σ n = 7 := by
  unfold rootErr
  rw [if_neg h0, if_pos (by unfold Store.has; rw [get_far h]; rfl)]
theorem strx (k : Nat) (hk : k < 15) : bstr [120] ++ bstr [UInt8.ofNat (97 + k)] = bstr (nmX k) := by
  unfold bstr nmX
  rfl
set_option maxRecDepth 100000 in
theorem known_law (w : World) : Calls Try.prog 8 #[] w fun e w' => e = .returned (.bool true) ∧ Adds w w' := by
  obtain ⟨A, hA⟩ : ∃ S, S = bstr nmA := ⟨_, rfl⟩
  obtain ⟨T, hT⟩ : ∃ S, S = bstr [50] := ⟨_, rfl⟩
  obtain ⟨B, hB⟩ : ∃ S, S = bstr [98] := ⟨_, rfl⟩
  obtain ⟨N, hN⟩ : ∃ S, S = bstr nmNone := ⟨_, rfl⟩
  obtain ⟨M, hM⟩ : ∃ S, S = bstr nmMore := ⟨_, rfl⟩
  have eA : ({ data := #[97] } : ByteArray) = A := by rw [hA]; rfl
  have eT : ({ data := #[50] } : ByteArray) = T := by rw [hT]; rfl
  have eB : ({ data := #[98] } : ByteArray) = B := by rw [hB]; rfl
  have eN : ({ data := #[110, 111, 110, 101] } : ByteArray) = N := by rw [hN]; rfl
  have eM : ({ data := #[111, 110, 101, 45, 109, 111, 114, 101] } : ByteArray) = M := by rw [hM]; rfl
  have HS := Lib.hid (And.intro hA (And.intro hT (And.intro hB (And.intro hN hM))))
  clear hA hT hB hN hM
  go_enter Try.func8, Try.ntmps8
  go_wp2_with fail
  refine (one_ok w).mono ?_; rintro e w1 ⟨s, v, r, σ, rfl, h1⟩
  have hadd := h1.add (x := nmA) name_a (by simp [Nms.names]) (by decide) (by decide)
  rw [← HS.out.1] at hadd
  have HADD := Lib.hid hadd
  clear hadd h1
  go_wp2_with fail
  refine HADD.out.mono ?_; rintro e w2 ⟨σ2, rfl, h2⟩
  have hno := h2.addNo (x := [50]) (root := r) (c := 5) (by decide) (by unfold addErr; rw [if_pos nusX_end.2.2.2.2.2.1]) (by decide)
  rw [← HS.out.2.1] at hno
  have HNO := Lib.hid hno
  have H2 := Lib.hid h2
  clear hno h2 HADD
  go_wp2_with fail
  refine HNO.out.mono ?_; rintro e w3 ⟨rfl, a3⟩
  have h3 := H2.out.adds a3
  have hno := h3.addNo (x := [98]) (root := 599) (c := 7) (by decide) (by
    unfold addErr
    have hfar : rootErr σ2 599 = 7 := by
      have := h3.span
      exact rootErr_far (by omega) (by decide)
    rw [if_neg (by rw [nusX_end.2.2.2.2.2.2]; decide), if_pos (by rw [hfar]; decide), hfar]) (by decide)
  rw [← HS.out.2.2.1] at hno
  have HNO2 := Lib.hid hno
  have H3 := Lib.hid h3
  clear hno h3 a3 HNO
  go_wp2_with fail
  refine HNO2.out.mono ?_; rintro e w4 ⟨rfl, a4⟩
  have h4 := H3.out.adds a4
  have hadd := h4.add0 (x := nmNone) nusX_end.2.2.2.2.1 (by simp [Nms.names, Nms.set, Nms.cut, nmA, nmNone]) (by show (1 : Nat) < 16; decide)
  rw [← HS.out.2.2.2.1] at hadd
  have HADD := Lib.hid hadd
  clear hadd h4 a4 HNO2
  go_wp2_with fail
  refine HADD.out.mono ?_; rintro e w5 ⟨rfl, h5⟩
  have H5 := Lib.hid h5
  clear h5 HADD
  go_wp2_with fail
  refine H5.out.drop.mono ?_; rintro e w6 ⟨n6, σ6, rfl, h6⟩
  have hnm := h6.vs.names_ok (by show 2 ≤ 65536; decide)
  rw [sort_two] at hnm
  have HNM := Lib.hid hnm
  have H6 := Lib.hid h6
  clear hnm h6
  go_wp2_with fail
  refine HNM.out.mono ?_; rintro e w7 ⟨q, rfl, hq, a7⟩
  obtain ⟨ao, cap, rfl, hrow, hlen⟩ := RowOf.own hq
  have hst := fun w8 (a : Adds w7 w8) (h : RowOf w8 (some ⟨w7.heap.size, 0, none⟩) ([nmA, nmNone].map encStr)) => SameTexts_ok (l1 := [nmA, nmNone]) (l2 := [nmA, nmNone]) cap 2 (hrow.adds a) h (by decide) (by decide)
  simp only [decide_true] at hst
  have HST := Lib.hid hst
  have H7 := Lib.hid (H6.out.adds a7)
  clear hq a7 hrow hlen hst
  go_wp2_with fail
  obtain ⟨w8, hw8⟩ : ∃ w8, w8 = w7.alloc (.cells #[.string A, .string N] 9) := ⟨_, rfl⟩
  have a8 : Adds w7 w8 := by rw [hw8]; exact (Ch.refl _ _).alloc _
  have r8 : w8.heap[w7.heap.size]? = some (.cells #[.string A, .string N] 9 (0, 0)) := by rw [hw8]; exact heap_alloc_new _ _
  rw [← hw8]
  refine (HST.out _ a8 (fun i x hx => ?_)).mono ?_
  · match i, hx with
    | 0, hx =>
      simp at hx
      subst hx
      exact ⟨w7.heap.size, 0, rfl, by rw [row_cell r8 (i := 0) rfl, HS.out.1]; rfl⟩
    | 1, hx =>
      simp at hx
      subst hx
      exact ⟨w7.heap.size, 0, rfl, by rw [row_cell r8 (i := 1) rfl, HS.out.2.2.2.1]; rfl⟩
    | i + 2, hx => simp at hx
  rintro e w9 ⟨rfl, a9⟩
  have h9 := (H7.out.adds a8).adds a9
  have hrs := h9.vs.roots_ok (by show 2 ≤ 65536; decide)
  rw [sort_two, get_two] at hrs
  have HRS := Lib.hid hrs
  have H9 := Lib.hid h9
  clear hrs h9 a8 a9 r8 hw8 HST
  go_wp2_with fail
  refine HRS.out.mono ?_; rintro e w10 ⟨q, rfl, hq, a10⟩
  obtain ⟨ao2, cap2, rfl, hrow, hlen⟩ := RowOf.own hq
  have hst := fun w8 (a : Adds w10 w8) (h : RowOf w8 (some ⟨w10.heap.size, 0, none⟩) (intV [r, 0])) => SameInts_ok (l1 := [r, 0]) (l2 := [r, 0]) cap2 2 (hrow.adds a) h (by show 2 ≤ 65536; decide) (by show 2 ≤ 65536; decide)
  simp only [decide_true] at hst
  have HST := Lib.hid hst
  have H10 := Lib.hid (H9.out.adds a10)
  clear hq a10 hrow hlen hst HRS
  go_wp2_with fail
  obtain ⟨w11, hw11⟩ : ∃ w8, w8 = w10.alloc (.cells #[.int .i64 r, .int .i64 0] 3) := ⟨_, rfl⟩
  have a11 : Adds w10 w11 := by rw [hw11]; exact (Ch.refl _ _).alloc _
  have r11 : w11.heap[w10.heap.size]? = some (.cells #[.int .i64 r, .int .i64 0] 3 (0, 0)) := by rw [hw11]; exact heap_alloc_new _ _
  rw [← hw11]
  refine (HST.out _ a11 (fun i x hx => ?_)).mono ?_
  · match i, hx with
    | 0, hx =>
      simp [intV] at hx
      subst hx
      exact ⟨w10.heap.size, 0, rfl, row_cell r11 (i := 0) rfl⟩
    | 1, hx =>
      simp [intV] at hx
      subst hx
      exact ⟨w10.heap.size, 0, rfl, row_cell r11 (i := 1) rfl⟩
    | i + 2, hx => simp [intV] at hx
  rintro e w12 ⟨rfl, a12⟩
  have h12 := (H10.out.adds a11).adds a12
  have hcut := h12.cut1 (x := nmA) (by decide) (by rw [names_two]; simp) (by rw [Nms.get_set (by decide), Nms.get_same])
  rw [← HS.out.1, cut_two] at hcut
  have HCUT := Lib.hid hcut
  clear hcut h12 a11 a12 r11 hw11 HST
  go_wp2_with fail
  refine HCUT.out.mono ?_; rintro e w13 ⟨σ13, rfl, h13, hl13⟩
  have hcn := h13.vs.cutNo (x := nmA) (by decide) (by decide)
  rw [← HS.out.1] at hcn
  have HCN := Lib.hid hcn
  have H13 := Lib.hid h13
  have HOC := Lib.hid (h13.occupied hl13)
  clear hcn h13 hl13 HCUT
  go_wp2_with fail
  refine HCN.out.mono ?_; rintro e w14 ⟨rfl, rfl⟩
  go_wp2_with fail
  refine HOC.out.mono ?_; rintro e w15 ⟨rfl, rfl⟩
  have H0 : RowKit.Hid (St14 w w13 s v r σ13 (nusX 0) [] 601) := Lib.hid H13.out
  clear HCN HOC H13
  go_wp2_with fail
  go_loopg [11] 15 (fun g s11 wr => ∃ k : Nat, k + g = 15 ∧ s11 = .int .i64 k ∧ St14 w wr s v r σ13 (nusX k) [] 601)
  case atStart => exact ⟨0, rfl, rfl, H0.out⟩
  case round =>
    obtain ⟨k, hk, rfl, hst⟩ := hrel
    by_cases hk15 : k = 15
    · subst hk15
      have hno := hst.addNo (x := nmMore) (root := 0) (c := 8) (by decide) (by
        unfold addErr
        rw [if_neg (by rw [nusX_end.2.2.2.1]; decide), if_neg (by rw [rootErr_zero]; simp), if_neg nusX_end.2.1, if_pos (by rw [nusX_end.1]; decide)]) (by decide)
      rw [← HS.out.2.2.2.2] at hno
      have HNO := Lib.hid hno
      have HST := Lib.hid hst
      clear hno hst H0
      go_wp2_with fail
      refine HNO.out.mono ?_; rintro e w16 ⟨rfl, a16⟩
      have h16 := HST.out.adds a16
      have hno := h16.addNo (x := nmNone) (root := 0) (c := 6) (by decide) (by
        unfold addErr
        rw [if_neg (by rw [nusX_end.2.2.2.2.1]; decide), if_neg (by rw [rootErr_zero]; simp), if_pos nusX_end.2.2.1]) (by decide)
      rw [← HS.out.2.2.2.1] at hno
      have HNO2 := Lib.hid hno
      have H16 := Lib.hid h16
      clear hno h16 a16 HNO
      go_wp2_with fail
      refine HNO2.out.mono ?_; rintro e w17 ⟨rfl, a17⟩
      have hln := (H16.out.adds a17).vs.len
      rw [nusX_end.1] at hln
      have HLN := Lib.hid hln
      have H17 := Lib.hid (H16.out.adds a17).world
      clear hln a17 HNO2
      go_wp2_with fail
      refine HLN.out.mono ?_; rintro e w18 ⟨rfl, rfl⟩
      go_wp2_with fail
      refine (awake_ok _).mono ?_; rintro e w19 ⟨rfl, a19⟩
      have H19 := Lib.hid (H17.out.trans a19 (fun _ h => h.elim))
      clear a19
      go_wp2
      go_ret
      exact ⟨rfl, H19.out⟩
    · have hkl : k < 15 := by omega
      have hkl' : (k : Int) < 15 := by omega
      obtain ⟨g, rfl⟩ : ∃ g, gk = g + 1 := ⟨gk - 1, by omega⟩
      obtain ⟨q1, q2, q3⟩ := nusX_ok k hkl
      have hadd := fun w1 (a : Adds wr w1) => (hst.adds a).add0 (x := nmX k) q1 q2 (by omega)
      obtain ⟨X, hX⟩ : ∃ S, S = bstr (nmX k) := ⟨_, rfl⟩
      obtain ⟨Y, hY⟩ : ∃ S, S = bstr [UInt8.ofNat (97 + k)] := ⟨_, rfl⟩
      have hcat : ({ data := #[120] } : ByteArray) ++ Y = X := by rw [hX, hY]; exact strx k hkl
      have hb : ((UInt8.ofNat (97 + k)).toNat : Int) = 97 + (k : Int) := by
        rw [UInt8.toNat_ofNat']
        omega
      have hYs : Y.size = 1 := by rw [hY]; rfl
      have hcv := conv_bytes (one_byte (w := wr.alloc (.cells #[.int .u8 ((UInt8.ofNat (97 + k)).toNat : Int)] 5)) (heap_alloc_new _ _))
      rw [hb, ← hY] at hcv
      rw [← hX] at hadd
      have HADD := Lib.hid hadd
      have HX := Lib.hid (nusX_next k)
      clear hadd hst q1 q2 q3 hX hY hb H0
      go_wp2_with fail
      refine (HADD.out _ ((Ch.refl _ _).alloc _)).mono ?_; rintro e w16 ⟨rfl, h16⟩
      have H16 := Lib.hid h16
      clear h16
      go_wp2
      go_roundg g
      case measure => omega
      case rel => exact ⟨k + 1, by omega, by simp, by rw [HX.out]; exact H16.out⟩
end Go.Proofs.Ytfllneenonhonaa.Law14
