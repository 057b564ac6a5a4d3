/- Keys as ways down, plainly: bits, how many first bits two keys share, a key's first bits. -/
import Derived.Test.YtdgdpbmaalcedaaBytes
import Derived.ChangeKeysEq
import Derived.Laws.StructEq
namespace Go.Proofs.Ytdgdpbmaalcedaa
open Go Go.RowKit
section
variable {P : Program}
theorem run_part_cell (w : World) (e : TypeId) (hagg : (isAgg e).run P w = .ok false w) (cs : Array Value) (i : Nat) (v : Value) (h : cs[i]? = some v) : (part e cs i).run P w = .ok v w := by
  unfold part
  simp only [Sem.run_bind, hagg, Result.andThen_ok]
  simp only [Bool.false_eq_true, if_false, h, Sem.run_pure]
theorem run_items_bytes (w : World) (e : TypeId) (k' : IntKind) (hagg : (isAgg e).run P w = .ok false w) (he : P.underlying e = some (.int k')) (d : Nat) (a b : List UInt8) : ∀ (m k : Nat), k + m ≤ a.length → k + m ≤ b.length →
    (Op.eqItems (d + 1) e 1 (brow a) (brow b) (List.range' k m)).run P w = .ok (decide ((a.drop k).take m = (b.drop k).take m)) w
  | 0, k, _, _ => by simp [Op.eqItems]
  | m + 1, k, ha, hb => by
    have ea := brow_get (l := a) (i := k) (by omega)
    have eb := brow_get (l := b) (i := k) (by omega)
    have ih := run_items_bytes w e k' hagg he d a b m (k + 1) (by omega) (by omega)
    rw [List.range'_succ]
    simp only [Op.eqItems, Sem.run_bind, Nat.mul_one, run_part_cell w e hagg _ k _ ea, run_part_cell w e hagg _ k _ eb, Result.andThen_ok, run_equalIn_int w d e .u8 k' _ _ he]
    have da : (a.drop k).take (m + 1) = a.getD k 0 :: (a.drop (k + 1)).take m := by
      rw [List.drop_eq_getElem_cons (by omega), List.take_succ_cons]; simp [List.getElem?_eq_getElem (show k < a.length by omega)]
    have db : (b.drop k).take (m + 1) = b.getD k 0 :: (b.drop (k + 1)).take m := by
      rw [List.drop_eq_getElem_cons (by omega), List.take_succ_cons]; simp [List.getElem?_eq_getElem (show k < b.length by omega)]
    rw [da, db]
    by_cases h : a.getD k 0 = b.getD k 0
    · rw [h]
      simp only [beq_self_eq_true, Bool.not_true, Bool.false_eq_true, if_false]
      rw [ih]
      simp
    · have hne : (((a.getD k 0).toNat : Int) == ((b.getD k 0).toNat : Int)) = false := by
        rw [beq_eq_false_iff_ne]
        intro e
        exact h (UInt8.toNat_inj.1 (by omega))
      simp only [hne, Bool.not_false, if_true, Sem.run_pure]
      congr 1
      symm
      rw [decide_eq_false_iff_not]
      intro hc
      exact h (List.cons.inj hc).1
/-- Two arrays of bytes are compared. -/
theorem run_equal_bytes (w : World) (t e : TypeId) (n : Nat) (k' : IntKind) (i : TypeInfo) (hu : P.underlying t = some (.array n e)) (hi : P.info? e = some i) (hC : P.cellsOf e = 1) (hagg : (isAgg e).run P w = .ok false w) (he : P.underlying e = some (.int k')) (d : Nat)
    (a b : List UInt8) (ha : a.length = n) (hb : b.length = n) : (Op.equalIn (d + 2) t (.agg (brow a)) (.agg (brow b))).run P w = .ok (decide (a = b)) w := by
  rw [run_equalIn_array w (d + 1) _ _ hu hi, hC, List.range_eq_range', run_items_bytes w e k' hagg he d a b n 0 (by omega) (by omega)]
  congr 1
  simp only [List.drop_zero]
  rw [List.take_of_length_le (by omega), List.take_of_length_le (by omega)]
end
end Go.Proofs.Ytdgdpbmaalcedaa
namespace Go.Proofs.Ytdgdpbmaalcedaa.Path
open Go Go.RowKit Go.Proofs.Ytdgdpbmaalcedaa
set_option linter.unusedVariables false

/-- The bit i (from the highest, 0 to 7) of a byte. -/
def bbit (x : UInt8) (i : Nat) : Nat := x.toNat / 2 ^ (7 - i) % 2
def kbit (k : List UInt8) (d : Nat) : Nat := bbit (k.getD (d / 8) 0) (d % 8)
/-- path.Bit. -/
def bit (k : List UInt8) (d : Int) : Int := if 0 ≤ d ∧ d < 256 then (kbit k d.toNat : Nat) else -1
def mask (i : Nat) : Nat := 128 / 2 ^ i
/-- How many first bits are 0 in a byte. -/
def lead (x : UInt8) : Nat := if x.toNat = 0 then 8 else 7 - Nat.log2 x.toNat
/-- path.Common. -/
def common : List UInt8 → List UInt8 → Nat
  | a :: l, b :: m => if a = b then 8 + common l m else lead (a ^^^ b)
  | _, _ => 0
/-- The byte of which so many first bits stay, the rest 0. -/
def kept (x : UInt8) (keep : Int) : UInt8 := if keep ≤ 0 then 0 else if keep < 8 then UInt8.ofNat (x.toNat / 2 ^ (8 - keep.toNat) * 2 ^ (8 - keep.toNat)) else x
def firstFrom (d : Int) : Int → List UInt8 → List UInt8
  | _, [] => []
  | i, x :: l => kept x (d - 8 * i) :: firstFrom d (i + 1) l
/-- path.First, in range. -/
def first (k : List UInt8) (d : Int) : List UInt8 := firstFrom d 0 k

theorem mask_test : ∀ (x : Fin 256) (i : Fin 8), (x.val &&& mask i.val = 0) = (x.val / 2 ^ (7 - i.val) % 2 = 0) := by decide +kernel
theorem bbit_mask (x : UInt8) (i : Nat) (h : i < 8) : (x.toNat &&& mask i = 0) ↔ bbit x i = 0 := by
  have := mask_test ⟨x.toNat, x.toNat_lt⟩ ⟨i, h⟩
  simp only at this
  rw [this]
  rfl
theorem bbit_lt (x : UInt8) (i : Nat) : bbit x i < 2 := Nat.mod_lt _ (by omega)
theorem bbit_cases (x : UInt8) (i : Nat) : bbit x i = 0 ∨ bbit x i = 1 := by have := bbit_lt x i; omega
theorem kbit_cases (k : List UInt8) (d : Nat) : kbit k d = 0 ∨ kbit k d = 1 := bbit_cases _ _
theorem bit_in {k : List UInt8} {d : Nat} (h : d < 256) : bit k d = (kbit k d : Nat) := by unfold bit; rw [if_pos (by omega)]; rfl
theorem firstFrom_length (d : Int) : ∀ (i : Int) (l : List UInt8), (firstFrom d i l).length = l.length
  | _, [] => rfl
  | i, x :: l => by simp [firstFrom, firstFrom_length d (i + 1) l]
theorem first_length (k : List UInt8) (d : Int) : (first k d).length = k.length := firstFrom_length d 0 k
theorem firstFrom_get (d : Int) : ∀ (i : Int) (l : List UInt8) (n : Nat) (x : UInt8), l[n]? = some x → (firstFrom d i l)[n]? = some (kept x (d - 8 * (i + n)))
  | _, [], n, x, h => by simp at h
  | i, y :: l, 0, x, h => by simp at h; subst h; simp [firstFrom]
  | i, y :: l, n + 1, x, h => by
    have := firstFrom_get d (i + 1) l n x (by simpa using h)
    simp only [firstFrom, List.getElem?_cons_succ, this]
    congr 2
    omega
theorem common_self : ∀ (a : List UInt8), common a a = 8 * a.length
  | [] => rfl
  | x :: a => by simp [common, common_self a]; omega
/-- At the first unlike byte. -/
theorem common_at : ∀ (a b : List UInt8) (i : Nat) (x y : UInt8), a.take i = b.take i → a[i]? = some x → b[i]? = some y → x ≠ y → common a b = 8 * i + lead (x ^^^ y)
  | [], _, i, x, y, _, h, _, _ => by simp at h
  | _ :: _, [], i, x, y, _, _, h, _ => by simp at h
  | c :: a, e :: b, 0, x, y, _, h1, h2, hne => by
    simp at h1 h2
    subst h1 h2
    simp [common, hne]
  | c :: a, e :: b, i + 1, x, y, ht, h1, h2, hne => by
    simp only [List.take_succ_cons, List.cons.injEq] at ht
    obtain ⟨rfl, ht⟩ := ht
    have := common_at a b i x y ht (by simpa using h1) (by simpa using h2) hne
    simp only [common, if_true, this]
    omega

end Go.Proofs.Ytdgdpbmaalcedaa.Path
