/- The contracts of tag: digests of a byte and parts behind it. -/
import Derived.Test.YtdgdpbmaalcedaaShaY
namespace Go.Proofs.Ytdgdpbmaalcedaa.Tag
open Go Go.RowKit Go.Proofs.Ytdgdpbmaalcedaa Go.Proofs.Ytdgdpbmaalcedaa.ShaW
set_option maxHeartbeats 3200000
set_option linter.unusedVariables false

/-- A slice of slices that reads as parts. -/
def Parts (w : World) (v : Value) (ps : List (List UInt8)) : Prop :=
  ∃ ao cap, v = .slice ao ps.length cap ∧ ∀ (i : Nat) (p : List UInt8), ps[i]? = some p → ∃ g off x, ao = some ⟨g, off, none⟩ ∧ w.cell? ⟨g, off + i, none⟩ = some x ∧ Bytes w x p ∧ (p ≠ [] → ∀ k, x.ownBlock = some k → k < w.heap.size)
def digest (t : UInt8) (ps : List (List UInt8)) : List UInt8 := Sha.sum (t :: ps.flatten)

theorem sumlen_le : ∀ {ps : List (List UInt8)} {i : Nat} {p : List UInt8}, ps[i]? = some p → ((ps.take i).flatten).length + p.length ≤ ps.flatten.length
  | [], i, p, h => by simp at h
  | q :: ps, 0, p, h => by simp at h; subst h; simp
  | q :: ps, i + 1, p, h => by
    have := sumlen_le (ps := ps) (i := i) (p := p) (by simpa using h)
    simp only [List.take_succ_cons, List.flatten_cons, List.length_append]
    omega

set_option maxRecDepth 100000 in
theorem Of_ok {w : World} (t : UInt8) {v : Value} {ps : List (List UInt8)} (hp : Parts w v ps) (hlen : ps.flatten.length ≤ 1000000000000) (hn : ps.length ≤ 1000) :
    Calls Try.prog 91 #[bv t, v] w fun e w' => e = .returned (.agg (brow (digest t ps))) ∧ Ch (fun _ => False) w w' := by
  obtain ⟨ao, cap, rfl, hps⟩ := hp
  obtain ⟨Z, hZ⟩ : ∃ Z, Z = brow (List.replicate 32 0) := ⟨_, rfl⟩
  have hzh := zeroH
  rw [← hZ] at hzh
  have hZs : Z.size = 32 := by rw [hZ]; rfl
  have HZ := Lib.hid (And.intro hzh hZs)
  have HPS := Lib.hid hps
  have HLEN := Lib.hid hlen
  clear hzh hZs hZ hps hlen
  go_enter Try.func91, Try.ntmps91
  go_wp2_with (first | ((with_reducible show wpList _ _ _ (⟨_, .alloc 71, _, _, _, _⟩ :: _) _ _); refine wpList_alloc_is rfl 71 rfl (.agg Z) HZ.out.1 ?_; dsimp only [Value.cells]; try simp only [World.size_alloc]))
  refine (New_ok _).mono ?_; rintro e w1 ⟨a, ha1, ha2, rfl, hst, hch⟩
  rw [World.size_alloc] at ha1
  have hz1 := hch.row (heap_alloc_new w (.cells Z 71)) id
  have hc1 := ((Ch.refl (fun _ => False) w).alloc (.cells Z 71)).trans hch (fun _ h => h.elim)
  have Z1 := Lib.hid hz1
  have C1 := Lib.hid hc1
  have ST1 := Lib.hid hst
  clear hst hch hz1 hc1
  go_wp2_with fail
  have hb2 : Bytes (w1.alloc (.cells #[bv t] 5)) (.slice (some ⟨w1.heap.size, 0, none⟩) 1 1) [t] := Bytes.row (bs := [t]) (heap_alloc_new _ _) rfl (by unfold maxLen; omega)
  refine (Write_ok (ST1.out.keep ((Ch.refl (fun _ => False) w1).alloc _) id) hb2 (fun _ k hk => by cases hk; simp; omega) (by simp)).mono ?_; rintro e w2 ⟨rfl, hst2, hc2⟩
  have ST2 := Lib.hid hst2
  have C2 := Lib.hid (((Ch.refl (fun k => k = a) w1).alloc _).trans_same hc2)
  clear hst2 hc2 hb2
  go_wp2
  go_loopg [15] ps.length (fun g s15 wr => ∃ i : Nat, i ≤ ps.length ∧ g = ps.length - i ∧ s15 = .int .i64 i ∧ Stands wr a (t :: (ps.take i).flatten) ∧ Ch (fun k => k = a) w1 wr)
  case atStart => exact ⟨0, Nat.zero_le _, rfl, rfl, by simpa using ST2.out, C2.out⟩
  case round =>
    obtain ⟨i, hi, rfl, rfl, hst, hch⟩ := hrel
    have hwr : Ch (fun _ => False) w wr := C1.out.trans hch (fun k hk => .inr (by omega))
    by_cases hil : i < ps.length
    · obtain ⟨p, hp⟩ : ∃ p, ps[i]? = some p := ⟨_, List.getElem?_eq_getElem hil⟩
      obtain ⟨g, off, x, rfl, hc, hb, hk⟩ := HPS.out i p hp
      have c1 := hwr.cell hc id
      have hbr := hb.keep hwr (fun _ _ h => h)
      have hxa : p ≠ [] → ∀ k, x.ownBlock = some k → k ≠ a := fun hp0 k h => by have := hk hp0 k h; omega
      have hi1 : (i : Int) < (ps.length : Int) := by omega
      have hi2 : (i : Int) ≤ 1000 := by omega
      have hi3 : i ≤ 1000 := by omega
      have hpl : p.length ≤ 1000000000000 := by
        have h1 := HLEN.out
        have := sumlen_le hp
        omega
      have hfl : (t :: (ps.take i).flatten).length + p.length ≤ 1125899906842624 := by
        have h1 := HLEN.out
        have h2 := sumlen_le hp
        simp only [List.length_cons]
        omega
      have htk : t :: (ps.take (i + 1)).flatten = (t :: (ps.take i).flatten) ++ p := by
        rw [List.take_add_one, hp]; simp
      have HB := Lib.hid hbr
      have HXA := Lib.hid hxa
      have HFL := Lib.hid hfl
      have HTK := Lib.hid htk
      have ST := Lib.hid hst
      have CH := Lib.hid hch
      clear hp hc hb hbr hxa hk hfl htk hst hch hwr hpl
      go_wp2_with fail
      refine (Write_ok ST.out HB.out HXA.out HFL.out).mono ?_; rintro e w3 ⟨rfl, hst3, hc3⟩
      have ST3 := Lib.hid hst3
      have C3 := Lib.hid hc3
      clear hst3 hc3
      go_wp2
      go_roundg (ps.length - (i + 1))
      case measure => omega
      case rel => exact ⟨i + 1, by omega, rfl, by go_num, by rw [HTK.out]; exact ST3.out, CH.out.trans_same C3.out⟩
    · have hil' : i = ps.length := by omega
      have hd : decide (i < ps.length) = false := by simp; omega
      have hd' : decide ((i : Int) < (ps.length : Int)) = false := by simp; omega
      rw [hil', List.take_length] at hst
      have HST := Lib.hid hst
      have HW := Lib.hid hwr
      have HZR := Lib.hid (hch.row Z1.out (by omega))
      clear hst hch hwr hil' hil
      have hln : (t :: ps.flatten).length ≤ 1125899906842000 := by have := HLEN.out; simp only [List.length_cons]; omega
      obtain ⟨O, hO⟩ : ∃ O, O = brow (digest t ps) := ⟨_, rfl⟩
      have hos : O.size = 32 := by rw [hO, brow_size, digest, Sha.sum, flat4_length, Sha.words_length]
      have ho1 := brow_one (digest t ps)
      rw [← hO] at ho1
      have hsum := Sum_ok HST.out hln
      rw [show brow (Sha.sum (t :: ps.flatten)) = O from hO.symm] at hsum
      have HS := Lib.hid hsum
      have HO := Lib.hid (And.intro hO (And.intro hos ho1))
      clear hln hO hos ho1 hsum
      go_wp2_with fail
      refine HS.out.mono ?_; rintro e w4 ⟨rfl, hc4⟩
      have hz4 := hc4.row HZR.out id
      have hw4 := HW.out.trans hc4 (fun _ h => h.elim)
      have Z4 := Lib.hid hz4
      have W4 := Lib.hid hw4
      clear hc4 hz4 hw4
      go_wp2_with (first
        | ((with_reducible show wpList _ _ _ (⟨_, .store 71 _ _, _, _, _, _⟩ :: _) _ _); refine wpList_store_part rfl 71 _ _ rfl w.heap.size 0 O rfl rfl Z4.out (by rw [sizeH, HO.out.2.1]) (by rw [HO.out.2.1, HZ.out.2]; omega) HO.out.2.2 O (by rw [splice_all _ _ (by rw [Array.length_toList, Array.length_toList, HO.out.2.1, HZ.out.2])]) ?_))
      exact bodyPost_ret_cell1 (p := 4) rfl rfl (row_setRow_same Z4.out _) Try.underlying71 rfl (by rw [sizeH, HO.out.2.1]) rfl ⟨by rw [HO.out.1], W4.out.setRow (.inr (Nat.le_refl _)) _⟩

theorem digest_length (t : UInt8) (ps : List (List UInt8)) : (digest t ps).length = 32 := by rw [digest, Sha.sum, flat4_length, Sha.words_length]

def emptyD : List UInt8 := digest 0 []
def valueD (v : List UInt8) : List UInt8 := digest 3 [v]
def leafD (key hash : List UInt8) : List UInt8 := digest 1 [key, hash]
def innerD (l r : List UInt8) : List UInt8 := digest 2 [l, r]

theorem Empty_ok (w : World) : Calls Try.prog 52 #[] w fun e w' => e = .returned (.agg (brow emptyD)) ∧ Ch (fun _ => False) w w' := by
  obtain ⟨Z, hZ⟩ : ∃ Z, Z = brow (List.replicate 32 0) := ⟨_, rfl⟩
  have hzh := zeroH
  rw [← hZ] at hzh
  have hZs : Z.size = 32 := by rw [hZ]; rfl
  obtain ⟨O, hO⟩ : ∃ O, O = brow emptyD := ⟨_, rfl⟩
  have hos : O.size = 32 := by rw [hO, brow_size]; exact digest_length _ _
  have ho1 := brow_one emptyD
  have hcall := fun w => Of_ok (w := w) 0 (v := .slice none 0 0) (ps := []) ⟨none, 0, rfl, fun i p h => by simp at h⟩ (by simp) (by simp)
  rw [← hO] at ho1
  rw [show brow (digest 0 []) = O from hO.symm] at hcall
  have HC := Lib.hid hcall
  have HZ := Lib.hid (And.intro hzh hZs)
  have HO := Lib.hid (And.intro hO (And.intro hos ho1))
  clear hzh hZs hZ hO hos ho1 hcall
  go_enter Try.func52, Try.ntmps52
  go_wp2_with (first | ((with_reducible show wpList _ _ _ (⟨_, .alloc 71, _, _, _, _⟩ :: _) _ _); refine wpList_alloc_is rfl 71 rfl (.agg Z) HZ.out.1 ?_; dsimp only [Value.cells]; try simp only [World.size_alloc]))
  refine (HC.out _).mono ?_; rintro e w4 ⟨rfl, hc4⟩
  have hz4 := hc4.row (heap_alloc_new w (.cells Z 71)) id
  have hw4 := ((Ch.refl (fun _ => False) w).alloc (.cells Z 71)).trans hc4 (fun _ h => h.elim)
  have Z4 := Lib.hid hz4
  have W4 := Lib.hid hw4
  clear hc4 hz4 hw4
  go_wp2_with (first
    | ((with_reducible show wpList _ _ _ (⟨_, .store 71 _ _, _, _, _, _⟩ :: _) _ _); refine wpList_store_part rfl 71 _ _ rfl w.heap.size 0 O rfl rfl Z4.out (by rw [sizeH, HO.out.2.1]) (by rw [HO.out.2.1, HZ.out.2]; omega) HO.out.2.2 O (by rw [splice_all _ _ (by rw [Array.length_toList, Array.length_toList, HO.out.2.1, HZ.out.2])]) ?_))
  exact bodyPost_ret_cell1 (p := 0) rfl rfl (row_setRow_same Z4.out _) Try.underlying71 rfl (by rw [sizeH, HO.out.2.1]) rfl ⟨by rw [HO.out.1], W4.out.setRow (.inr (Nat.le_refl _)) _⟩

theorem Value_ok {w : World} {v : Value} {bs : List UInt8} (hb : Bytes w v bs) (hk : bs ≠ [] → ∀ k, v.ownBlock = some k → k < w.heap.size) (hlen : bs.length ≤ 1000000000000) : Calls Try.prog 38 #[v] w fun e w' => e = .returned (.agg (brow (valueD bs))) ∧ Ch (fun _ => False) w w' := by
  obtain ⟨Z, hZ⟩ : ∃ Z, Z = brow (List.replicate 32 0) := ⟨_, rfl⟩
  have hzh := zeroH
  rw [← hZ] at hzh
  have hZs : Z.size = 32 := by rw [hZ]; rfl
  obtain ⟨O, hO⟩ : ∃ O, O = brow (valueD bs) := ⟨_, rfl⟩
  have hos : O.size = 32 := by rw [hO, brow_size]; exact digest_length _ _
  have ho1 := brow_one (valueD bs)
  obtain ⟨ao, cap, rfl, _, _⟩ := hb.form
  have hp : Parts ((w.alloc (.cells Z 71)).alloc (.cells #[.slice ao bs.length cap] 75)) (.slice (some ⟨w.heap.size + 1, 0, none⟩) 1 1) [bs] := by
    refine ⟨_, 1, rfl, fun i p h => ?_⟩
    match i, h with
    | 0, h =>
      simp at h
      subst h
      refine ⟨w.heap.size + 1, 0, .slice ao bs.length cap, rfl, ?_, hb.keep (((Ch.refl (fun _ => False) w).alloc _).alloc _) (fun _ _ h => h), fun h0 k h => by have := hk h0 k h; simp; omega⟩
      have := heap_alloc_new (w.alloc (.cells Z 71)) (.cells #[.slice ao bs.length cap] 75)
      rw [World.size_alloc] at this
      exact row_cell this rfl
    | i + 1, h => simp at h
  have hcall := Of_ok 3 hp (by simpa using hlen) (by simp)
  rw [← hO] at ho1
  rw [show brow (digest 3 [bs]) = O from hO.symm] at hcall
  have HC := Lib.hid hcall
  have HZ := Lib.hid (And.intro hzh hZs)
  have HO := Lib.hid (And.intro hO (And.intro hos ho1))
  clear hzh hZs hZ hO hos ho1 hcall hp hb hk hlen
  go_enter Try.func38, Try.ntmps38
  go_wp2_with (first | ((with_reducible show wpList _ _ _ (⟨_, .alloc 71, _, _, _, _⟩ :: _) _ _); refine wpList_alloc_is rfl 71 rfl (.agg Z) HZ.out.1 ?_; dsimp only [Value.cells]; try simp only [World.size_alloc]))
  refine HC.out.mono ?_; rintro e w4 ⟨rfl, hc4⟩
  have hz4 := hc4.row (row_alloc (heap_alloc_new w (.cells Z 71)) _) id
  have hw4 := (((Ch.refl (fun _ => False) w).alloc (.cells Z 71)).alloc (.cells #[.slice ao bs.length cap] 75)).trans hc4 (fun _ h => h.elim)
  have Z4 := Lib.hid hz4
  have W4 := Lib.hid hw4
  clear hc4 hz4 hw4
  go_wp2_with (first
    | ((with_reducible show wpList _ _ _ (⟨_, .store 71 _ _, _, _, _, _⟩ :: _) _ _); refine wpList_store_part rfl 71 _ _ rfl w.heap.size 0 O rfl rfl Z4.out (by rw [sizeH, HO.out.2.1]) (by rw [HO.out.2.1, HZ.out.2]; omega) HO.out.2.2 O (by rw [splice_all _ _ (by rw [Array.length_toList, Array.length_toList, HO.out.2.1, HZ.out.2])]) ?_))
  exact bodyPost_ret_cell1 (p := 2) rfl rfl (row_setRow_same Z4.out _) Try.underlying71 rfl (by rw [sizeH, HO.out.2.1]) rfl ⟨by rw [HO.out.1], W4.out.setRow (.inr (Nat.le_refl _)) _⟩

set_option maxRecDepth 100000 in
theorem Leaf_ok (l r : List UInt8) (hl : l.length = 32) (hr : r.length = 32) (w : World) : Calls Try.prog 37 #[.agg (brow l), .agg (brow r)] w fun e w' => e = .returned (.agg (brow (leafD l r))) ∧ Ch (fun _ => False) w w' := by
  obtain ⟨Z, hZ⟩ : ∃ Z, Z = brow (List.replicate 32 0) := ⟨_, rfl⟩
  have hzh := zeroH
  rw [← hZ] at hzh
  have hZs : Z.size = 32 := by rw [hZ]; rfl
  obtain ⟨O, hO⟩ : ∃ O, O = brow (leafD l r) := ⟨_, rfl⟩
  have hos : O.size = 32 := by rw [hO, brow_size]; exact digest_length _ _
  have ho1 := brow_one (leafD l r)
  obtain ⟨L, hL⟩ : ∃ L, L = brow l := ⟨_, rfl⟩
  obtain ⟨R, hR⟩ : ∃ R, R = brow r := ⟨_, rfl⟩
  obtain ⟨w3, hw3⟩ : ∃ w3, w3 = ((w.alloc (.cells L 66)).alloc (.cells R 71)).alloc (.cells Z 71) := ⟨_, rfl⟩
  have g0 : w3.heap[w.heap.size]? = some (.cells L 66 (0, 0)) := by rw [hw3]; exact row_alloc (row_alloc (heap_alloc_new _ _) _) _
  have g1 : w3.heap[w.heap.size + 1]? = some (.cells R 71 (0, 0)) := by
    rw [hw3]; refine row_alloc ?_ _
    have := heap_alloc_new (w.alloc (.cells L 66)) (.cells R 71)
    simpa using this
  have g2 : w3.heap[w.heap.size + 1 + 1]? = some (.cells Z 71 (0, 0)) := by
    rw [hw3, heap_alloc_at]; simp
  have hs3 : w3.heap.size = w.heap.size + 1 + 1 + 1 := by rw [hw3]; simp
  have hc3 : Ch (fun _ => False) w w3 := by rw [hw3]; exact (((Ch.refl _ _).alloc _).alloc _).alloc _
  have hp : Parts (w3.drew.alloc (.cells #[.slice (some ⟨w.heap.size, 0, none⟩) 32 32, .slice (some ⟨w.heap.size + 1, 0, none⟩) 32 32] 75)) (.slice (some ⟨w3.heap.size, 0, none⟩) 2 2) [l, r] := by
    have hcx : Ch (fun _ => False) w3 (w3.drew.alloc (.cells #[.slice (some ⟨w.heap.size, 0, none⟩) 32 32, .slice (some ⟨w.heap.size + 1, 0, none⟩) 32 32] 75)) := (Ch.refl _ _).drew.alloc _
    have hrow := heap_alloc_new w3.drew (.cells #[.slice (some ⟨w.heap.size, 0, none⟩) 32 32, .slice (some ⟨w.heap.size + 1, 0, none⟩) 32 32] 75)
    rw [hL] at g0
    rw [hR] at g1
    have b0 := (Bytes.row g0 hl (by unfold maxLen; omega)).keep hcx (fun _ _ h => h)
    have b1 := (Bytes.row g1 hr (by unfold maxLen; omega)).keep hcx (fun _ _ h => h)
    refine ⟨_, 2, rfl, fun i p h => ?_⟩
    match i, h with
    | 0, h =>
      simp at h
      subst h
      exact ⟨w3.heap.size, 0, _, rfl, row_cell hrow rfl, b0, fun _ k hk => by cases hk; simp; omega⟩
    | 1, h =>
      simp at h
      subst h
      exact ⟨w3.heap.size, 0, _, rfl, row_cell hrow rfl, b1, fun _ k hk => by cases hk; simp; omega⟩
    | i + 2, h => simp at h
  have hcall := Of_ok 1 hp (by simp [hl, hr]) (by simp)
  have hs0 : ∀ w0 : World, (Instr.sliceAt 66 (.pointer (some ⟨w.heap.size, 0, none⟩)) none none none).run Try.prog w0 = .ok (.slice (some ⟨w.heap.size, 0, none⟩) 32 32) w0 := fun w0 => run_arr_all w0 66 32 (by kernel_rfl) (by kernel_rfl) (by kernel_rfl) _ _
  have hs1 : ∀ w0 : World, (Instr.sliceAt 71 (.pointer (some ⟨w.heap.size + 1, 0, none⟩)) none none none).run Try.prog w0 = .ok (.slice (some ⟨w.heap.size + 1, 0, none⟩) 32 32) w0 := fun w0 => run_arr_all w0 71 32 (by kernel_rfl) (by kernel_rfl) (by kernel_rfl) _ _
  rw [← hO] at ho1
  rw [show brow (digest 1 [l, r]) = O from hO.symm] at hcall
  rw [← hL, ← hR]
  have HC := Lib.hid hcall
  have HZ := Lib.hid (And.intro hzh hZs)
  have HO := Lib.hid (And.intro hO (And.intro hos ho1))
  have G2 := Lib.hid (And.intro g2 (And.intro hs3 hc3))
  have W3 := Lib.hid hw3
  clear hzh hZs hZ hO hos ho1 hcall hp hl hr g0 g1 g2 hs3 hc3 hw3 hL hR
  go_enter Try.func37, Try.ntmps37
  go_wp2_with (first | ((with_reducible show wpList _ _ _ (⟨_, .alloc 71, _, _, _, _⟩ :: _) _ _); refine wpList_alloc_is rfl 71 rfl (.agg Z) HZ.out.1 ?_; dsimp only [Value.cells]; try simp only [World.size_alloc]))
  rw [← W3.out]
  go_still_tail 2, (by kernel_rfl)
  show wpList _ _ _ _ _ w3.drew
  go_wp2_with fail
  refine HC.out.mono ?_; rintro e w4 ⟨rfl, hc4⟩
  have hz4 := hc4.row (row_alloc (row_drew G2.out.1) _) id
  have hw4 := (G2.out.2.2.drew.alloc (.cells #[.slice (some ⟨w.heap.size, 0, none⟩) 32 32, .slice (some ⟨w.heap.size + 1, 0, none⟩) 32 32] 75)).trans hc4 (fun _ h => h.elim)
  have Z4 := Lib.hid hz4
  have W4 := Lib.hid hw4
  clear hc4 hz4 hw4
  go_wp2_with (first
    | ((with_reducible show wpList _ _ _ (⟨_, .store 71 _ _, _, _, _, _⟩ :: _) _ _); refine wpList_store_part rfl 71 _ _ rfl (w.heap.size + 1 + 1) 0 O rfl rfl Z4.out (by rw [sizeH, HO.out.2.1]) (by rw [HO.out.2.1, HZ.out.2]; omega) HO.out.2.2 O (by rw [splice_all _ _ (by rw [Array.length_toList, Array.length_toList, HO.out.2.1, HZ.out.2])]) ?_))
  exact bodyPost_ret_cell1 (p := 4) rfl rfl (row_setRow_same Z4.out _) Try.underlying71 rfl (by rw [sizeH, HO.out.2.1]) rfl ⟨by rw [HO.out.1], W4.out.setRow (.inr (by omega)) _⟩

set_option maxRecDepth 100000 in
theorem Inner_ok (l r : List UInt8) (hl : l.length = 32) (hr : r.length = 32) (w : World) : Calls Try.prog 86 #[.agg (brow l), .agg (brow r)] w fun e w' => e = .returned (.agg (brow (innerD l r))) ∧ Ch (fun _ => False) w w' := by
  obtain ⟨Z, hZ⟩ : ∃ Z, Z = brow (List.replicate 32 0) := ⟨_, rfl⟩
  have hzh := zeroH
  rw [← hZ] at hzh
  have hZs : Z.size = 32 := by rw [hZ]; rfl
  obtain ⟨O, hO⟩ : ∃ O, O = brow (innerD l r) := ⟨_, rfl⟩
  have hos : O.size = 32 := by rw [hO, brow_size]; exact digest_length _ _
  have ho1 := brow_one (innerD l r)
  obtain ⟨L, hL⟩ : ∃ L, L = brow l := ⟨_, rfl⟩
  obtain ⟨R, hR⟩ : ∃ R, R = brow r := ⟨_, rfl⟩
  obtain ⟨w3, hw3⟩ : ∃ w3, w3 = ((w.alloc (.cells L 71)).alloc (.cells R 71)).alloc (.cells Z 71) := ⟨_, rfl⟩
  have g0 : w3.heap[w.heap.size]? = some (.cells L 71 (0, 0)) := by rw [hw3]; exact row_alloc (row_alloc (heap_alloc_new _ _) _) _
  have g1 : w3.heap[w.heap.size + 1]? = some (.cells R 71 (0, 0)) := by
    rw [hw3]; refine row_alloc ?_ _
    have := heap_alloc_new (w.alloc (.cells L 71)) (.cells R 71)
    simpa using this
  have g2 : w3.heap[w.heap.size + 1 + 1]? = some (.cells Z 71 (0, 0)) := by
    rw [hw3, heap_alloc_at]; simp
  have hs3 : w3.heap.size = w.heap.size + 1 + 1 + 1 := by rw [hw3]; simp
  have hc3 : Ch (fun _ => False) w w3 := by rw [hw3]; exact (((Ch.refl _ _).alloc _).alloc _).alloc _
  have hp : Parts (w3.drew.alloc (.cells #[.slice (some ⟨w.heap.size, 0, none⟩) 32 32, .slice (some ⟨w.heap.size + 1, 0, none⟩) 32 32] 75)) (.slice (some ⟨w3.heap.size, 0, none⟩) 2 2) [l, r] := by
    have hcx : Ch (fun _ => False) w3 (w3.drew.alloc (.cells #[.slice (some ⟨w.heap.size, 0, none⟩) 32 32, .slice (some ⟨w.heap.size + 1, 0, none⟩) 32 32] 75)) := (Ch.refl _ _).drew.alloc _
    have hrow := heap_alloc_new w3.drew (.cells #[.slice (some ⟨w.heap.size, 0, none⟩) 32 32, .slice (some ⟨w.heap.size + 1, 0, none⟩) 32 32] 75)
    rw [hL] at g0
    rw [hR] at g1
    have b0 := (Bytes.row g0 hl (by unfold maxLen; omega)).keep hcx (fun _ _ h => h)
    have b1 := (Bytes.row g1 hr (by unfold maxLen; omega)).keep hcx (fun _ _ h => h)
    refine ⟨_, 2, rfl, fun i p h => ?_⟩
    match i, h with
    | 0, h =>
      simp at h
      subst h
      exact ⟨w3.heap.size, 0, _, rfl, row_cell hrow rfl, b0, fun _ k hk => by cases hk; simp; omega⟩
    | 1, h =>
      simp at h
      subst h
      exact ⟨w3.heap.size, 0, _, rfl, row_cell hrow rfl, b1, fun _ k hk => by cases hk; simp; omega⟩
    | i + 2, h => simp at h
  have hcall := Of_ok 2 hp (by simp [hl, hr]) (by simp)
  have hs0 : ∀ w0 : World, (Instr.sliceAt 71 (.pointer (some ⟨w.heap.size, 0, none⟩)) none none none).run Try.prog w0 = .ok (.slice (some ⟨w.heap.size, 0, none⟩) 32 32) w0 := fun w0 => run_arr_all w0 71 32 (by kernel_rfl) (by kernel_rfl) (by kernel_rfl) _ _
  have hs1 : ∀ w0 : World, (Instr.sliceAt 71 (.pointer (some ⟨w.heap.size + 1, 0, none⟩)) none none none).run Try.prog w0 = .ok (.slice (some ⟨w.heap.size + 1, 0, none⟩) 32 32) w0 := fun w0 => run_arr_all w0 71 32 (by kernel_rfl) (by kernel_rfl) (by kernel_rfl) _ _
  rw [← hO] at ho1
  rw [show brow (digest 2 [l, r]) = O from hO.symm] at hcall
  rw [← hL, ← hR]
  have HC := Lib.hid hcall
  have HZ := Lib.hid (And.intro hzh hZs)
  have HO := Lib.hid (And.intro hO (And.intro hos ho1))
  have G2 := Lib.hid (And.intro g2 (And.intro hs3 hc3))
  have W3 := Lib.hid hw3
  clear hzh hZs hZ hO hos ho1 hcall hp hl hr g0 g1 g2 hs3 hc3 hw3 hL hR
  go_enter Try.func86, Try.ntmps86
  go_wp2_with (first | ((with_reducible show wpList _ _ _ (⟨_, .alloc 71, _, _, _, _⟩ :: _) _ _); refine wpList_alloc_is rfl 71 rfl (.agg Z) HZ.out.1 ?_; dsimp only [Value.cells]; try simp only [World.size_alloc]))
  rw [← W3.out]
  go_still_tail 2, (by kernel_rfl)
  show wpList _ _ _ _ _ w3.drew
  go_wp2_with fail
  refine HC.out.mono ?_; rintro e w4 ⟨rfl, hc4⟩
  have hz4 := hc4.row (row_alloc (row_drew G2.out.1) _) id
  have hw4 := (G2.out.2.2.drew.alloc (.cells #[.slice (some ⟨w.heap.size, 0, none⟩) 32 32, .slice (some ⟨w.heap.size + 1, 0, none⟩) 32 32] 75)).trans hc4 (fun _ h => h.elim)
  have Z4 := Lib.hid hz4
  have W4 := Lib.hid hw4
  clear hc4 hz4 hw4
  go_wp2_with (first
    | ((with_reducible show wpList _ _ _ (⟨_, .store 71 _ _, _, _, _, _⟩ :: _) _ _); refine wpList_store_part rfl 71 _ _ rfl (w.heap.size + 1 + 1) 0 O rfl rfl Z4.out (by rw [sizeH, HO.out.2.1]) (by rw [HO.out.2.1, HZ.out.2]; omega) HO.out.2.2 O (by rw [splice_all _ _ (by rw [Array.length_toList, Array.length_toList, HO.out.2.1, HZ.out.2])]) ?_))
  exact bodyPost_ret_cell1 (p := 4) rfl rfl (row_setRow_same Z4.out _) Try.underlying71 rfl (by rw [sizeH, HO.out.2.1]) rfl ⟨by rw [HO.out.1], W4.out.setRow (.inr (by omega)) _⟩

end Go.Proofs.Ytdgdpbmaalcedaa.Tag
