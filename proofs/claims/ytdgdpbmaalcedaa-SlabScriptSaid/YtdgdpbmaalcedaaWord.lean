/- Words of 32 bits and bytes as the model has them: the model's operations on integers, told as those of UInt32 and UInt8. Plain. -/
import Derived.Test.YtdgdpbmaalcedaaLaws
import Derived.Laws.BitsAllLaws
namespace Go.Proofs.Ytdgdpbmaalcedaa
open Go Go.RowKit

abbrev wv (x : UInt32) : Value := .int .u32 (x.toNat : Int)
abbrev bv (x : UInt8) : Value := .int .u8 (x.toNat : Int)

theorem UInt32.lt' (x : UInt32) : x.toNat < 4294967296 := x.toNat_lt
theorem xor_u (x y : UInt32) : bits .xor .u32 (x.toNat : Int) (y.toNat : Int) = ((x ^^^ y).toNat : Int) := by
  rw [u32_xor_nat _ _ x.toNat_lt y.toNat_lt, UInt32.toNat_xor]
theorem and_u (x y : UInt32) : bits .and .u32 (x.toNat : Int) (y.toNat : Int) = ((x &&& y).toNat : Int) := by
  rw [u32_and_nat _ _ x.toNat_lt y.toNat_lt, UInt32.toNat_and]
theorem or_u (x y : UInt32) : bits .or .u32 (x.toNat : Int) (y.toNat : Int) = ((x ||| y).toNat : Int) := by
  rw [u32_or_nat _ _ x.toNat_lt y.toNat_lt, UInt32.toNat_or]
theorem not_u (x : UInt32) : bits .xor .u32 4294967295 (x.toNat : Int) = ((~~~ x).toNat : Int) := by
  have h := xor_u 4294967295 x
  have h2 : (4294967295 : UInt32) ^^^ x = ~~~ x := by
    apply UInt32.eq_of_toBitVec_eq
    show (4294967295#32) ^^^ x.toBitVec = ~~~ x.toBitVec
    rw [show (4294967295#32) = BitVec.allOnes 32 from rfl]
    exact BitVec.allOnes_xor
  rw [h2] at h
  exact h
theorem add_u (x y : UInt32) : IntKind.u32.wrap ((x.toNat : Int) + (y.toNat : Int)) = ((x + y).toNat : Int) := by
  rw [IntKind.wrap_u32', UInt32.toNat_add]; omega
theorem add_u' (x y : UInt32) : ((x.toNat : Int) + (y.toNat : Int)) % 4294967296 = ((x + y).toNat : Int) := by
  rw [UInt32.toNat_add]; omega
/-- A sum of words, in both spellings that the walk knows. -/
theorem addw (x y : UInt32) : IntKind.u32.wrap ((x.toNat : Int) + (y.toNat : Int)) = ((x + y).toNat : Int) ∧ ((x.toNat : Int) + (y.toNat : Int)) % (4294967296 : Int) = ((x + y).toNat : Int) := by
  have : ((x.toNat : Int) + (y.toNat : Int)) % (4294967296 : Int) = ((x + y).toNat : Int) := by rw [UInt32.toNat_add]; omega
  exact ⟨by rw [IntKind.wrap_u32']; exact this, this⟩
theorem conv_u (b : UInt8) : IntKind.u32.wrap ((b.toNat : Int)) = (b.toUInt32.toNat : Int) := by
  have := b.toNat_lt
  rw [IntKind.wrap_u32']; simp; omega
theorem shl_u (x : UInt32) (n : Nat) (A : Int) (h : n < 32) (hA : A = 2 ^ n) : (x.toNat : Int) * A % 4294967296 = ((x <<< UInt32.ofNat n).toNat : Int) := by
  subst hA
  rw [UInt32.toNat_shiftLeft]
  have : (UInt32.ofNat n).toNat % 32 = n := by rw [UInt32.toNat_ofNat']; omega
  rw [this, Nat.shiftLeft_eq, Int.natCast_emod, Int.natCast_mul, Int.natCast_pow]
  rfl
theorem shr_u (x : UInt32) (n : Nat) (A : Int) (h : n < 32) (hA : A = 2 ^ n) : (x.toNat : Int) / A = ((x >>> UInt32.ofNat n).toNat : Int) := by
  subst hA
  rw [UInt32.toNat_shiftRight]
  have : (UInt32.ofNat n).toNat % 32 = n := by rw [UInt32.toNat_ofNat']; omega
  rw [this, Nat.shiftRight_eq_div_pow, Int.natCast_ediv, Int.natCast_pow]
  rfl
def rotr (x : UInt32) (n : Nat) : UInt32 := (x <<< UInt32.ofNat (32 - n)) ||| (x >>> UInt32.ofNat n)
theorem rotr_u (x : UInt32) (n : Nat) (A B : Int) (h0 : 0 < n) (h : n < 32) (hA : A = 2 ^ (32 - n)) (hB : B = 2 ^ n) : bits .or .u32 ((x.toNat : Int) * A % 4294967296) ((x.toNat : Int) / B) = ((rotr x n).toNat : Int) := by
  rw [shl_u x (32 - n) A (by omega) hA, shr_u x n B h hB, or_u, rotr]
theorem shr_u3 (x : UInt32) : (x.toNat : Int) / 8 = ((x >>> 3).toNat : Int) := shr_u x 3 8 (by omega) rfl
theorem shr_u10 (x : UInt32) : (x.toNat : Int) / 1024 = ((x >>> 10).toNat : Int) := shr_u x 10 1024 (by omega) rfl
theorem shl_u8 (x : UInt32) : (x.toNat : Int) * 256 % 4294967296 = ((x <<< 8).toNat : Int) := shl_u x 8 256 (by omega) rfl
theorem shl_u16 (x : UInt32) : (x.toNat : Int) * 65536 % 4294967296 = ((x <<< 16).toNat : Int) := shl_u x 16 65536 (by omega) rfl
theorem shl_u24 (x : UInt32) : (x.toNat : Int) * 16777216 % 4294967296 = ((x <<< 24).toNat : Int) := shl_u x 24 16777216 (by omega) rfl

end Go.Proofs.Ytdgdpbmaalcedaa
