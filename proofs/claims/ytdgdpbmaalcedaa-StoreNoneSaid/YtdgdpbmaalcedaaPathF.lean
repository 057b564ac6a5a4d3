/- The contracts of path: First. -/
import Derived.Test.YtdgdpbmaalcedaaPathW
namespace Go.Proofs.Ytdgdpbmaalcedaa.Path
open Go Go.RowKit Go.Proofs.Ytdgdpbmaalcedaa
set_option maxHeartbeats 3200000
set_option linter.unusedVariables false

/-- A key of which the first i bytes have been gone over. -/
def upTo (k : List UInt8) (d : Int) (i : Nat) : List UInt8 := (first k d).take i ++ k.drop i
theorem upTo_length (k : List UInt8) (d : Int) (i : Nat) (hi : i ≤ k.length) : (upTo k d i).length = k.length := by simp [upTo, first_length]; omega
theorem upTo_get (k : List UInt8) (d : Int) (i : Nat) (x : UInt8) (h : k[i]? = some x) : (upTo k d i)[i]? = some x := by
  have hi := (List.getElem?_eq_some_iff.1 h).1
  have hl : ((first k d).take i).length = i := by simp [first_length]; omega
  rw [upTo, List.getElem?_append_right (by omega), hl, Nat.sub_self, List.getElem?_drop]
  exact h
theorem upTo_succ (k : List UInt8) (d : Int) (i : Nat) (x : UInt8) (h : k[i]? = some x) : upTo k d (i + 1) = (upTo k d i).set i (kept x (d - 8 * i)) := by
  have hi := (List.getElem?_eq_some_iff.1 h).1
  have hl : ((first k d).take i).length = i := by simp [first_length]; omega
  have hf := firstFrom_get d 0 k i x h
  unfold upTo
  rw [List.set_append_right _ _ (by omega), hl, Nat.sub_self, List.take_add_one]
  rw [show (first k d)[i]? = some (kept x (d - 8 * i)) by rw [first, hf]; congr 2; omega]
  rw [List.drop_eq_getElem_cons hi, List.set_cons_zero, Option.toList_some, List.append_assoc, List.singleton_append]
theorem upTo_full (k : List UInt8) (d : Int) : upTo k d k.length = first k d := by
  rw [upTo, List.take_of_length_le (by rw [first_length]; exact Nat.le_refl _), List.drop_length, List.append_nil]
theorem brow_set (l : List UInt8) (i : Nat) (x : UInt8) : (brow l).setIfInBounds i (bv x) = brow (l.set i x) := by
  apply Array.ext'
  simp [brow, List.map_set]

theorem kept_val : ∀ (x : Fin 256) (r : Fin 7), bits .or .u8 (bits .andNot .u8 (x.val : Int) ((255 / 2 ^ (r.val + 1) : Nat) : Int)) (bits .and .u8 0 ((255 / 2 ^ (r.val + 1) : Nat) : Int)) = ((x.val / 2 ^ (8 - (r.val + 1)) * 2 ^ (8 - (r.val + 1)) : Nat) : Int) := by decide +kernel
theorem kept1 (x : UInt8) : bits .or .u8 (bits .andNot .u8 (x.toNat : Int) (127 : Int)) (bits .and .u8 0 (127 : Int)) = ((kept x 1).toNat : Int) := by
  have h := kept_val ⟨x.toNat, x.toNat_lt⟩ ⟨0, by omega⟩
  have e : (kept x 1).toNat = x.toNat / 2 ^ (8 - 1) * 2 ^ (8 - 1) := by
    have hx := x.toNat_lt
    have : x.toNat / 2 ^ (8 - 1) * 2 ^ (8 - 1) ≤ x.toNat := Nat.div_mul_le_self _ _
    show (UInt8.ofNat (x.toNat / 2 ^ (8 - 1) * 2 ^ (8 - 1))).toNat = _
    rw [UInt8.toNat_ofNat']; omega
  rw [e]
  exact h
theorem kept2 (x : UInt8) : bits .or .u8 (bits .andNot .u8 (x.toNat : Int) (63 : Int)) (bits .and .u8 0 (63 : Int)) = ((kept x 2).toNat : Int) := by
  have h := kept_val ⟨x.toNat, x.toNat_lt⟩ ⟨1, by omega⟩
  have e : (kept x 2).toNat = x.toNat / 2 ^ (8 - 2) * 2 ^ (8 - 2) := by
    have hx := x.toNat_lt
    have : x.toNat / 2 ^ (8 - 2) * 2 ^ (8 - 2) ≤ x.toNat := Nat.div_mul_le_self _ _
    show (UInt8.ofNat (x.toNat / 2 ^ (8 - 2) * 2 ^ (8 - 2))).toNat = _
    rw [UInt8.toNat_ofNat']; omega
  rw [e]
  exact h
theorem kept3 (x : UInt8) : bits .or .u8 (bits .andNot .u8 (x.toNat : Int) (31 : Int)) (bits .and .u8 0 (31 : Int)) = ((kept x 3).toNat : Int) := by
  have h := kept_val ⟨x.toNat, x.toNat_lt⟩ ⟨2, by omega⟩
  have e : (kept x 3).toNat = x.toNat / 2 ^ (8 - 3) * 2 ^ (8 - 3) := by
    have hx := x.toNat_lt
    have : x.toNat / 2 ^ (8 - 3) * 2 ^ (8 - 3) ≤ x.toNat := Nat.div_mul_le_self _ _
    show (UInt8.ofNat (x.toNat / 2 ^ (8 - 3) * 2 ^ (8 - 3))).toNat = _
    rw [UInt8.toNat_ofNat']; omega
  rw [e]
  exact h
theorem kept4 (x : UInt8) : bits .or .u8 (bits .andNot .u8 (x.toNat : Int) (15 : Int)) (bits .and .u8 0 (15 : Int)) = ((kept x 4).toNat : Int) := by
  have h := kept_val ⟨x.toNat, x.toNat_lt⟩ ⟨3, by omega⟩
  have e : (kept x 4).toNat = x.toNat / 2 ^ (8 - 4) * 2 ^ (8 - 4) := by
    have hx := x.toNat_lt
    have : x.toNat / 2 ^ (8 - 4) * 2 ^ (8 - 4) ≤ x.toNat := Nat.div_mul_le_self _ _
    show (UInt8.ofNat (x.toNat / 2 ^ (8 - 4) * 2 ^ (8 - 4))).toNat = _
    rw [UInt8.toNat_ofNat']; omega
  rw [e]
  exact h
theorem kept5 (x : UInt8) : bits .or .u8 (bits .andNot .u8 (x.toNat : Int) (7 : Int)) (bits .and .u8 0 (7 : Int)) = ((kept x 5).toNat : Int) := by
  have h := kept_val ⟨x.toNat, x.toNat_lt⟩ ⟨4, by omega⟩
  have e : (kept x 5).toNat = x.toNat / 2 ^ (8 - 5) * 2 ^ (8 - 5) := by
    have hx := x.toNat_lt
    have : x.toNat / 2 ^ (8 - 5) * 2 ^ (8 - 5) ≤ x.toNat := Nat.div_mul_le_self _ _
    show (UInt8.ofNat (x.toNat / 2 ^ (8 - 5) * 2 ^ (8 - 5))).toNat = _
    rw [UInt8.toNat_ofNat']; omega
  rw [e]
  exact h
theorem kept6 (x : UInt8) : bits .or .u8 (bits .andNot .u8 (x.toNat : Int) (3 : Int)) (bits .and .u8 0 (3 : Int)) = ((kept x 6).toNat : Int) := by
  have h := kept_val ⟨x.toNat, x.toNat_lt⟩ ⟨5, by omega⟩
  have e : (kept x 6).toNat = x.toNat / 2 ^ (8 - 6) * 2 ^ (8 - 6) := by
    have hx := x.toNat_lt
    have : x.toNat / 2 ^ (8 - 6) * 2 ^ (8 - 6) ≤ x.toNat := Nat.div_mul_le_self _ _
    show (UInt8.ofNat (x.toNat / 2 ^ (8 - 6) * 2 ^ (8 - 6))).toNat = _
    rw [UInt8.toNat_ofNat']; omega
  rw [e]
  exact h
theorem kept7 (x : UInt8) : bits .or .u8 (bits .andNot .u8 (x.toNat : Int) (1 : Int)) (bits .and .u8 0 (1 : Int)) = ((kept x 7).toNat : Int) := by
  have h := kept_val ⟨x.toNat, x.toNat_lt⟩ ⟨6, by omega⟩
  have e : (kept x 7).toNat = x.toNat / 2 ^ (8 - 7) * 2 ^ (8 - 7) := by
    have hx := x.toNat_lt
    have : x.toNat / 2 ^ (8 - 7) * 2 ^ (8 - 7) ≤ x.toNat := Nat.div_mul_le_self _ _
    show (UInt8.ofNat (x.toNat / 2 ^ (8 - 7) * 2 ^ (8 - 7))).toNat = _
    rw [UInt8.toNat_ofNat']; omega
  rw [e]
  exact h
theorem kept1z (x : UInt8) : bits .or .u8 (bits .andNot .u8 (x.toNat : Int) (127 : Int)) (0 : Int) = ((kept x 1).toNat : Int) := by
  have e : bits .and .u8 0 (127 : Int) = 0 := by decide +kernel
  have h := kept1 x
  rw [e] at h
  exact h
theorem kept2z (x : UInt8) : bits .or .u8 (bits .andNot .u8 (x.toNat : Int) (63 : Int)) (0 : Int) = ((kept x 2).toNat : Int) := by
  have e : bits .and .u8 0 (63 : Int) = 0 := by decide +kernel
  have h := kept2 x
  rw [e] at h
  exact h
theorem kept3z (x : UInt8) : bits .or .u8 (bits .andNot .u8 (x.toNat : Int) (31 : Int)) (0 : Int) = ((kept x 3).toNat : Int) := by
  have e : bits .and .u8 0 (31 : Int) = 0 := by decide +kernel
  have h := kept3 x
  rw [e] at h
  exact h
theorem kept4z (x : UInt8) : bits .or .u8 (bits .andNot .u8 (x.toNat : Int) (15 : Int)) (0 : Int) = ((kept x 4).toNat : Int) := by
  have e : bits .and .u8 0 (15 : Int) = 0 := by decide +kernel
  have h := kept4 x
  rw [e] at h
  exact h
theorem kept5z (x : UInt8) : bits .or .u8 (bits .andNot .u8 (x.toNat : Int) (7 : Int)) (0 : Int) = ((kept x 5).toNat : Int) := by
  have e : bits .and .u8 0 (7 : Int) = 0 := by decide +kernel
  have h := kept5 x
  rw [e] at h
  exact h
theorem kept6z (x : UInt8) : bits .or .u8 (bits .andNot .u8 (x.toNat : Int) (3 : Int)) (0 : Int) = ((kept x 6).toNat : Int) := by
  have e : bits .and .u8 0 (3 : Int) = 0 := by decide +kernel
  have h := kept6 x
  rw [e] at h
  exact h
theorem kept7z (x : UInt8) : bits .or .u8 (bits .andNot .u8 (x.toNat : Int) (1 : Int)) (0 : Int) = ((kept x 7).toNat : Int) := by
  have e : bits .and .u8 0 (1 : Int) = 0 := by decide +kernel
  have h := kept7 x
  rw [e] at h
  exact h

set_option maxRecDepth 100000 in
theorem filled_ok (k : List UInt8) (hk : k.length = 32) (d : Int) (hd : 0 ≤ d ∧ d ≤ 256) (w : World) :
    Calls Try.prog 108 #[.agg (brow k), .int .i64 d, .int .u8 0] w fun e w' => e = .returned (.tuple #[.agg (brow (first k d)), .int .i64 0]) ∧ Ch (fun _ => False) w w' := by
  obtain ⟨Z, hZ⟩ : ∃ Z, Z = brow (List.replicate 32 0) := ⟨_, rfl⟩
  have hzh := zeroP
  rw [← hZ] at hzh
  have hZs : Z.size = 32 := by rw [hZ]; rfl
  obtain ⟨K, hK⟩ : ∃ K, K = brow k := ⟨_, rfl⟩
  rw [← hK]
  have h0 := hd.1
  have h1 := hd.2
  have HZ := Lib.hid (And.intro hzh hZs)
  have HK := Lib.hid hK
  have HKL := Lib.hid hk
  clear hZ hzh hZs hK hk hd
  go_enter Try.func108, Try.ntmps108
  go_wp2_with (first | ((with_reducible show wpList _ _ _ (⟨_, .alloc 66, _, _, _, _⟩ :: _) _ _); refine wpList_alloc_is rfl 66 rfl (.agg Z) HZ.out.1 ?_; dsimp only [Value.cells]; try simp only [World.size_alloc]))
  go_loopg [18] 32 (fun g s18 wr => ∃ i : Nat, i ≤ 32 ∧ g = 32 - i ∧ s18 = .int .i64 i ∧ wr.heap[w.heap.size]? = some (.cells (brow (upTo k d i)) 66 (0, 0)) ∧ wr.heap[w.heap.size + 1]? = some (.cells Z 66 (0, 0)) ∧ Ch (fun _ => False) w wr)
  case atStart =>
    refine ⟨0, Nat.zero_le _, rfl, rfl, ?_, ?_, ((Ch.refl _ _).alloc _).alloc _⟩
    · rw [show upTo k d 0 = k by simp [upTo], ← HK.out]
      exact row_alloc (heap_alloc_new _ _) _
    · have := heap_alloc_new (w.alloc (.cells K 66)) (.cells Z 66)
      simpa using this
  case round =>
    obtain ⟨i, hi, rfl, rfl, hr, hz, hch⟩ := hrel
    by_cases hil : i < 32
    · have ea : k[i]? = some (k.getD i 0) := by simp [show i < k.length by rw [HKL.out]; exact hil]
      generalize k.getD i 0 = x at ea
      have hux := upTo_get k d i x ea
      have hus := upTo_succ k d i x ea
      have c1 := row_cell hr (brow_get' hux)
      have f1 := row_free hr i
      have l1 := row_lt hr
      have hi1 : (i : Int) < 32 := by omega
      have hi2 : (i : Int) ≤ 31 := by omega
      have hi3 : i ≤ 31 := by omega
      have wr8 : IntKind.i64.wrap (8 * (i : Int)) = 8 * (i : Int) := IntWalk.i64_in _ (by omega)
      by_cases hc1 : d - 8 * (i : Int) ≤ 0
      · have hk0 : kept x (d - 8 * i) = 0 := by unfold kept; rw [if_pos hc1]
        rw [hk0] at hus
        have HU := Lib.hid hus
        have HR := Lib.hid hr
        have HZ2 := Lib.hid hz
        have HC := Lib.hid hch
        clear hus hr hz hch ea hux hk0
        go_wp2
        go_roundg (32 - (i + 1))
        case measure => omega
        case rel =>
          refine ⟨i + 1, by omega, rfl, by go_num, ?_, row_set HZ2.out (by simp) _, HC.out.setCell (p := ⟨w.heap.size, i, none⟩) (.inr (Nat.le_refl _)) _⟩
          have := row_set_same HR.out i (bv 0)
          rw [brow_set, ← HU.out] at this
          exact this
      · by_cases hc2 : d - 8 * (i : Int) < 8
        · have hr7 : d - 8 * (i : Int) = 1 ∨ d - 8 * (i : Int) = 2 ∨ d - 8 * (i : Int) = 3 ∨ d - 8 * (i : Int) = 4 ∨ d - 8 * (i : Int) = 5 ∨ d - 8 * (i : Int) = 6 ∨ d - 8 * (i : Int) = 7 := by omega
          have HU := Lib.hid hus
          have HR := Lib.hid hr
          have HZ2 := Lib.hid hz
          have HC := Lib.hid hch
          clear hus hr hz hch ea hux hc1 hc2
          rcases hr7 with h7 | h7 | h7 | h7 | h7 | h7 | h7
          · have HH7 := Lib.hid h7
            have hv := kept1 x
            have hv0 := kept1z x
            generalize hy : kept x 1 = y at hv hv0
            have HY := Lib.hid hy
            clear hy
            go_wp2
            go_roundg (32 - (i + 1))
            case measure => omega
            case rel =>
              refine ⟨i + 1, by omega, rfl, by go_num, ?_, row_set HZ2.out (by simp) _, HC.out.setCell (p := ⟨w.heap.size, i, none⟩) (.inr (Nat.le_refl _)) _⟩
              have := row_set_same HR.out i (bv y)
              have e : upTo k d (i + 1) = (upTo k d i).set i y := by rw [HU.out, HH7.out, HY.out]
              rw [brow_set, ← e] at this
              exact this
          · have HH7 := Lib.hid h7
            have hv := kept2 x
            have hv0 := kept2z x
            generalize hy : kept x 2 = y at hv hv0
            have HY := Lib.hid hy
            clear hy
            go_wp2
            go_roundg (32 - (i + 1))
            case measure => omega
            case rel =>
              refine ⟨i + 1, by omega, rfl, by go_num, ?_, row_set HZ2.out (by simp) _, HC.out.setCell (p := ⟨w.heap.size, i, none⟩) (.inr (Nat.le_refl _)) _⟩
              have := row_set_same HR.out i (bv y)
              have e : upTo k d (i + 1) = (upTo k d i).set i y := by rw [HU.out, HH7.out, HY.out]
              rw [brow_set, ← e] at this
              exact this
          · have HH7 := Lib.hid h7
            have hv := kept3 x
            have hv0 := kept3z x
            generalize hy : kept x 3 = y at hv hv0
            have HY := Lib.hid hy
            clear hy
            go_wp2
            go_roundg (32 - (i + 1))
            case measure => omega
            case rel =>
              refine ⟨i + 1, by omega, rfl, by go_num, ?_, row_set HZ2.out (by simp) _, HC.out.setCell (p := ⟨w.heap.size, i, none⟩) (.inr (Nat.le_refl _)) _⟩
              have := row_set_same HR.out i (bv y)
              have e : upTo k d (i + 1) = (upTo k d i).set i y := by rw [HU.out, HH7.out, HY.out]
              rw [brow_set, ← e] at this
              exact this
          · have HH7 := Lib.hid h7
            have hv := kept4 x
            have hv0 := kept4z x
            generalize hy : kept x 4 = y at hv hv0
            have HY := Lib.hid hy
            clear hy
            go_wp2
            go_roundg (32 - (i + 1))
            case measure => omega
            case rel =>
              refine ⟨i + 1, by omega, rfl, by go_num, ?_, row_set HZ2.out (by simp) _, HC.out.setCell (p := ⟨w.heap.size, i, none⟩) (.inr (Nat.le_refl _)) _⟩
              have := row_set_same HR.out i (bv y)
              have e : upTo k d (i + 1) = (upTo k d i).set i y := by rw [HU.out, HH7.out, HY.out]
              rw [brow_set, ← e] at this
              exact this
          · have HH7 := Lib.hid h7
            have hv := kept5 x
            have hv0 := kept5z x
            generalize hy : kept x 5 = y at hv hv0
            have HY := Lib.hid hy
            clear hy
            go_wp2
            go_roundg (32 - (i + 1))
            case measure => omega
            case rel =>
              refine ⟨i + 1, by omega, rfl, by go_num, ?_, row_set HZ2.out (by simp) _, HC.out.setCell (p := ⟨w.heap.size, i, none⟩) (.inr (Nat.le_refl _)) _⟩
              have := row_set_same HR.out i (bv y)
              have e : upTo k d (i + 1) = (upTo k d i).set i y := by rw [HU.out, HH7.out, HY.out]
              rw [brow_set, ← e] at this
              exact this
          · have HH7 := Lib.hid h7
            have hv := kept6 x
            have hv0 := kept6z x
            generalize hy : kept x 6 = y at hv hv0
            have HY := Lib.hid hy
            clear hy
            go_wp2
            go_roundg (32 - (i + 1))
            case measure => omega
            case rel =>
              refine ⟨i + 1, by omega, rfl, by go_num, ?_, row_set HZ2.out (by simp) _, HC.out.setCell (p := ⟨w.heap.size, i, none⟩) (.inr (Nat.le_refl _)) _⟩
              have := row_set_same HR.out i (bv y)
              have e : upTo k d (i + 1) = (upTo k d i).set i y := by rw [HU.out, HH7.out, HY.out]
              rw [brow_set, ← e] at this
              exact this
          · have HH7 := Lib.hid h7
            have hv := kept7 x
            have hv0 := kept7z x
            generalize hy : kept x 7 = y at hv hv0
            have HY := Lib.hid hy
            clear hy
            go_wp2
            go_roundg (32 - (i + 1))
            case measure => omega
            case rel =>
              refine ⟨i + 1, by omega, rfl, by go_num, ?_, row_set HZ2.out (by simp) _, HC.out.setCell (p := ⟨w.heap.size, i, none⟩) (.inr (Nat.le_refl _)) _⟩
              have := row_set_same HR.out i (bv y)
              have e : upTo k d (i + 1) = (upTo k d i).set i y := by rw [HU.out, HH7.out, HY.out]
              rw [brow_set, ← e] at this
              exact this
        · have hk0 : kept x (d - 8 * i) = x := by unfold kept; rw [if_neg hc1, if_neg hc2]
          have hse : (upTo k d i).set i x = upTo k d i := by
            obtain ⟨hlt, he⟩ := List.getElem?_eq_some_iff.1 hux
            rw [← he, List.set_getElem_self]
          rw [hk0, hse] at hus
          have HU := Lib.hid hus
          have HR := Lib.hid hr
          have HZ2 := Lib.hid hz
          have HC := Lib.hid hch
          have hc3 : 0 < d - 8 * (i : Int) := by omega
          have hc4 : 8 ≤ d - 8 * (i : Int) := by omega
          clear hus hr hz hch ea hux hk0 hse hc1 hc2
          go_wp2
          go_roundg (32 - (i + 1))
          case measure => omega
          case rel => exact ⟨i + 1, by omega, rfl, by go_num, by rw [HU.out]; exact HR.out, HZ2.out, HC.out⟩
    · have h32 : i = k.length := by rw [HKL.out]; omega
      have hd32 : decide ((i : Int) < 32) = false := by rw [decide_eq_false_iff_not]; have := HKL.out; omega
      rw [h32, upTo_full] at hr
      obtain ⟨O, hO⟩ : ∃ O, O = brow (first k d) := ⟨_, rfl⟩
      have hos : O.size = 32 := by rw [hO, brow_size, first_length, HKL.out]
      have ho1 := brow_one (first k d)
      rw [← hO] at hr ho1
      have HO := Lib.hid (And.intro hr (And.intro hos ho1))
      have HO' := Lib.hid hO
      have HZ2 := Lib.hid hz
      have HC2 := Lib.hid hch
      clear hr hos ho1 hO hz hch hil h32
      go_wp2_with (first
        | ((with_reducible show wpList _ _ _ (⟨_, .load 66 _, _, _, _, _⟩ :: _) _ _); refine wpList_load_part rfl 66 _ rfl w.heap.size 0 rfl HO.out.1 Try.underlying66 rfl sizeP (by rw [HO.out.2.1]; omega) O (by simp [← HO.out.2.1]) ?_)
        | ((with_reducible show wpList _ _ _ (⟨_, .store 66 _ _, _, _, _, _⟩ :: _) _ _); refine wpList_store_part rfl 66 _ _ rfl (w.heap.size + 1) 0 O rfl rfl HZ2.out (by rw [sizeP, HO.out.2.1]) (by rw [HO.out.2.1, HZ.out.2]; omega) HO.out.2.2 O (by rw [splice_all _ _ (by rw [Array.length_toList, Array.length_toList, HO.out.2.1, HZ.out.2])]) ?_))
      exact bodyPost_ret_cell (p := 6) (u := 7) rfl rfl (row_setRow_same HZ2.out _) Try.underlying66 rfl (by rw [sizeP, HO.out.2.1]) rfl ⟨by rw [HO'.out]; rfl, HC2.out.setRow (.inr (by omega)) _⟩

set_option maxRecDepth 100000 in
theorem First_ok (k : List UInt8) (hk : k.length = 32) (d : Int) (hd : 0 ≤ d ∧ d ≤ 256) (w : World) :
    Calls Try.prog 85 #[.agg (brow k), .int .i64 d] w fun e w' => e = .returned (.tuple #[.agg (brow (first k d)), .int .i64 0]) ∧ Ch (fun _ => False) w w' := by
  have hcall := filled_ok k hk d hd
  obtain ⟨Z, hZ⟩ : ∃ Z, Z = brow (List.replicate 32 0) := ⟨_, rfl⟩
  have hzh := zeroP
  rw [← hZ] at hzh
  have hZs : Z.size = 32 := by rw [hZ]; rfl
  obtain ⟨K, hK⟩ : ∃ K, K = brow k := ⟨_, rfl⟩
  have hKs : K.size = 32 := by rw [hK, brow_size, hk]
  obtain ⟨O, hO⟩ : ∃ O, O = brow (first k d) := ⟨_, rfl⟩
  have hos : O.size = 32 := by rw [hO, brow_size, first_length, hk]
  have ho1 := brow_one (first k d)
  rw [← hK, ← hO] at hcall
  rw [← hO] at ho1
  rw [← hK]
  have HC := Lib.hid hcall
  have HZ := Lib.hid (And.intro hzh hZs)
  have HK := Lib.hid hKs
  have HO := Lib.hid (And.intro hO (And.intro hos ho1))
  clear hcall hZ hzh hZs hK hKs hO hos ho1 hk hd
  go_enter Try.func85, Try.ntmps85
  go_wp2_with (first
    | ((with_reducible show wpList _ _ _ (⟨_, .alloc 66, _, _, _, _⟩ :: _) _ _); refine wpList_alloc_is rfl 66 rfl (.agg Z) HZ.out.1 ?_; dsimp only [Value.cells]; try simp only [World.size_alloc])
    | ((with_reducible show wpList _ _ _ (⟨_, .load 66 _, _, _, _, _⟩ :: _) _ _); refine wpList_load_part rfl 66 _ rfl w.heap.size 0 rfl (row_alloc (heap_alloc_new _ _) _) Try.underlying66 rfl sizeP (by rw [HK.out]; omega) K (by simp [← HK.out]) ?_))
  refine (HC.out _).mono ?_; rintro e w4 ⟨rfl, hc4⟩
  have hz4 := hc4.row (show ((w.alloc (.cells K 66)).alloc (.cells Z 66)).heap[w.heap.size + 1]? = some (.cells Z 66 (0, 0)) by
    have := heap_alloc_new (w.alloc (.cells K 66)) (.cells Z 66)
    simpa using this) id
  have hw4 := (((Ch.refl (fun _ => False) w).alloc (.cells K 66)).alloc (.cells Z 66)).trans hc4 (fun _ h => h.elim)
  have Z4 := Lib.hid hz4
  have W4 := Lib.hid hw4
  clear hc4 hz4 hw4
  go_wp2_with (first
    | ((with_reducible show wpList _ _ _ (⟨_, .store 66 _ _, _, _, _, _⟩ :: _) _ _); refine wpList_store_part rfl 66 _ _ rfl (w.heap.size + 1) 0 O rfl rfl Z4.out (by rw [sizeP, HO.out.2.1]) (by rw [HO.out.2.1, HZ.out.2]; omega) HO.out.2.2 O (by rw [splice_all _ _ (by rw [Array.length_toList, Array.length_toList, HO.out.2.1, HZ.out.2])]) ?_))
  exact bodyPost_ret_cell (p := 4) (u := 5) rfl rfl (row_setRow_same Z4.out _) Try.underlying66 rfl (by rw [sizeP, HO.out.2.1]) rfl ⟨by rw [HO.out.1]; rfl, W4.out.setRow (.inr (by omega)) _⟩

end Go.Proofs.Ytdgdpbmaalcedaa.Path
