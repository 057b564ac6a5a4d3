/- Plain laws: a slice that reads as bytes; its parts; copying. -/
import Derived.Test.YtdgdpbmaalcedaaWord
import Derived.Laws.CopyOwn
import Derived.Lib.Hide
namespace Go.Proofs.Ytdgdpbmaalcedaa
open Go Go.RowKit
set_option linter.unusedVariables false

/-- Words and bytes as a row of cells. -/
def wrow (l : List UInt32) : Array Value := (l.map wv).toArray
def brow (l : List UInt8) : Array Value := (l.map bv).toArray
theorem wrow_size (l : List UInt32) : (wrow l).size = l.length := by simp [wrow]
theorem wrow_one (l : List UInt32) : ∀ v ∈ (wrow l).toList, v.oneCell' = true := fun v hv => by
  simp only [wrow, List.mem_map] at hv
  obtain ⟨x, _, rfl⟩ := hv
  rfl
theorem brow_size (l : List UInt8) : (brow l).size = l.length := by simp [brow]
theorem brow_get {l : List UInt8} {i : Nat} (h : i < l.length) : (brow l)[i]? = some (bv (l.getD i 0)) := by
  simp [brow, h]
theorem brow_get' {l : List UInt8} {i : Nat} {x : UInt8} (h : l[i]? = some x) : (brow l)[i]? = some (bv x) := by
  simp [brow, h]
theorem brow_one (l : List UInt8) : ∀ v ∈ (brow l).toList, v.oneCell' = true := fun v hv => by
  simp only [brow, List.mem_map] at hv
  obtain ⟨x, _, rfl⟩ := hv
  rfl
theorem map_bv_one (l : List UInt8) : ∀ v ∈ l.map bv, v.oneCell' = true := fun v hv => by
  simp only [List.mem_map] at hv
  obtain ⟨x, _, rfl⟩ := hv
  rfl

/-- A slice value that reads as these bytes. -/
def Bytes (w : World) (v : Value) (bs : List UInt8) : Prop :=
  ∃ ao cap, v = .slice ao bs.length cap ∧ bs.length ≤ cap ∧ cap ≤ maxLen ∧ ∀ (j : Nat) (x : UInt8), bs[j]? = some x → ∃ g off, ao = some ⟨g, off, none⟩ ∧ w.cell? ⟨g, off + j, none⟩ = some (bv x)

theorem Bytes.form {w : World} {v : Value} {bs : List UInt8} (h : Bytes w v bs) : ∃ ao cap, v = .slice ao bs.length cap ∧ bs.length ≤ cap ∧ cap ≤ maxLen := by
  obtain ⟨ao, cap, h1, h2, h3, _⟩ := h
  exact ⟨ao, cap, h1, h2, h3⟩
theorem Bytes.at {w : World} {ao : Option Addr} {len cap : Nat} {bs : List UInt8} (h : Bytes w (.slice ao len cap) bs) : len = bs.length ∧ ∀ (j : Nat) (x : UInt8), bs[j]? = some x → ∃ g off, ao = some ⟨g, off, none⟩ ∧ w.cell? ⟨g, off + j, none⟩ = some (bv x) := by
  obtain ⟨ao', cap', h1, h2, h3, h4⟩ := h
  cases h1
  exact ⟨rfl, h4⟩
theorem cell_block {w : World} {p : Addr} {v : Value} (hc : w.cell? p = some v) : p.block < w.heap.size := by
  unfold World.cell? at hc
  cases hq : w.heap[p.block]? with
  | none => simp only [hq] at hc; cases hc
  | some o => exact row_lt hq
theorem Ch.cell {F : Nat → Prop} {w w' : World} (h : Ch F w w') {p : Addr} {v : Value} (hc : w.cell? p = some v) (hp : ¬ F p.block) : w'.cell? p = some v := by
  have := h.block p.block (cell_block hc) hp
  unfold World.cell? at hc ⊢
  rw [this]
  exact hc
theorem Bytes.keep {F : Nat → Prop} {w w' : World} {v : Value} {bs : List UInt8} (h : Bytes w v bs) (hc : Ch F w w') (hF : ∀ k, v.ownBlock = some k → ¬ F k) : Bytes w' v bs := by
  obtain ⟨ao, cap, rfl, h2, h3, h4⟩ := h
  refine ⟨ao, cap, rfl, h2, h3, fun j x hx => ?_⟩
  obtain ⟨g, off, rfl, hg⟩ := h4 j x hx
  exact ⟨g, off, rfl, hc.cell hg (hF g rfl)⟩
theorem Bytes.keepw {F : Nat → Prop} {w w' : World} {v : Value} {bs : List UInt8} (h : Bytes w v bs) (hc : Ch F w w') (hF : bs ≠ [] → ∀ k, v.ownBlock = some k → ¬ F k) : Bytes w' v bs := by
  by_cases he : bs = []
  · subst he
    obtain ⟨ao, cap, rfl, h2, h3, h4⟩ := h
    exact ⟨ao, cap, rfl, h2, h3, fun j x hx => by simp at hx⟩
  · exact h.keep hc (hF he)
theorem Bytes.nil (w : World) : Bytes w (.slice none 0 0) [] := ⟨none, 0, rfl, Nat.le_refl _, Nat.zero_le _, fun j x hx => by simp at hx⟩
theorem Bytes.row {w : World} {g n : Nat} {t : TypeId} {fr : Nat × Nat} {bs : List UInt8} (hg : w.heap[g]? = some (.cells (brow bs) t fr)) (hn : bs.length = n) (hm : n ≤ maxLen) : Bytes w (.slice (some ⟨g, 0, none⟩) n n) bs := by
  subst hn
  refine ⟨_, _, rfl, Nat.le_refl _, hm, fun j x hx => ⟨g, 0, rfl, ?_⟩⟩
  rw [Nat.zero_add]
  exact row_cell hg (brow_get' hx)
/-- Where a slice begins behind its first i elements. -/
def adv (a : Option Addr) (cap i : Nat) : Option Addr := if cap = i then a else a.map (·.add (i * 1))
theorem adv_block {a : Option Addr} {cap i n c k : Nat} (h : (Value.slice (adv a cap i) n c).ownBlock = some k) : ∃ n' c', (Value.slice a n' c').ownBlock = some k := by
  refine ⟨0, 0, ?_⟩
  unfold adv at h
  split at h
  · cases a <;> exact h
  · cases a with
    | none => cases h
    | some x => simp only [Option.map_some, Value.ownBlock] at h ⊢; rw [← h]; unfold Addr.add; split <;> rfl
theorem Bytes.drop {w : World} {ao : Option Addr} {len cap : Nat} {bs : List UInt8} (h : Bytes w (.slice ao len cap) bs) {i : Nat} (hi : i ≤ len) : Bytes w (.slice (adv ao cap i) (len - i) (cap - i)) (bs.drop i) := by
  obtain ⟨ao', cap', h1, h2, h3, h4⟩ := h
  cases h1
  refine ⟨_, _, by rw [List.length_drop], by rw [List.length_drop]; omega, by omega, fun j x hx => ?_⟩
  rw [List.getElem?_drop] at hx
  obtain ⟨g, off, rfl, hg⟩ := h4 _ x hx
  have hlt := (List.getElem?_eq_some_iff.1 hx).1
  refine ⟨g, off + i, ?_, by rw [← hg, Nat.add_assoc]⟩
  unfold adv
  rw [if_neg (by omega), Option.map_some, Nat.mul_one]
  unfold Addr.add
  split
  · rename_i h0; subst h0; rfl
  · rfl
theorem Bytes.take {w : World} {ao : Option Addr} {len cap : Nat} {bs : List UInt8} (h : Bytes w (.slice ao len cap) bs) {i : Nat} (hi : i ≤ len) : Bytes w (.slice ao i cap) (bs.take i) := by
  obtain ⟨ao', cap', h1, h2, h3, h4⟩ := h
  cases h1
  have hl : (bs.take i).length = i := by rw [List.length_take]; omega
  refine ⟨_, _, by rw [hl], by omega, h3, fun j x hx => ?_⟩
  have hj := (List.getElem?_eq_some_iff.1 hx).1
  rw [List.getElem?_take_of_lt (by omega)] at hx
  exact h4 j x hx

theorem add_plain (g o n : Nat) : (⟨g, o, none⟩ : Addr).add n = ⟨g, o + n, none⟩ := by
  unfold Addr.add
  split
  · rename_i h; subst h; rfl
  · rfl
section
variable {P : Program}
/-- A part of an array that lies in memory, from i on. -/
theorem run_arr_l (w : World) (t : TypeId) (N : Nat) (ht : P.underlying t = some (.array (P.arrayLen t) (P.elem t))) (hN : P.arrayLen t = N) (hs : (P.info? (P.elem t)).map (·.size) = some 1) (g off i : Nat) (k : IntKind) (hi : i < N) :
    (Instr.sliceAt t (.pointer (some ⟨g, off, none⟩)) (some (.int k (i : Int))) none none).run P w = .ok (.slice (some ⟨g, off + i, none⟩) (N - i) (N - i)) w := by
  subst hN
  rw [run_sliceAt_array_l w t _ ht k (i : Int) (by omega) (by omega)]
  cases hq : P.info? (P.elem t) with
  | none => rw [hq] at hs; cases hs
  | some inf =>
    rw [hq] at hs
    have hs' : inf.size = 1 := by simpa using hs
    have hsz : (sizeOf (P.elem t)).run P w = .ok 1 w := by rw [← hs']; simp [sizeOf, typeInfo, hq]
    simp only [hsz, Result.andThen_ok, slicedAt, Int.toNat_natCast]
    rw [if_neg (by omega), add_plain, Nat.mul_one]
theorem run_arr_all (w : World) (t : TypeId) (N : Nat) (ht : P.underlying t = some (.array (P.arrayLen t) (P.elem t))) (hN : P.arrayLen t = N) (hs : (P.info? (P.elem t)).isSome = true) (g off : Nat) :
    (Instr.sliceAt t (.pointer (some ⟨g, off, none⟩)) none none none).run P w = .ok (.slice (some ⟨g, off, none⟩) N N) w := by
  subst hN
  rw [run_sliceAt_array_all w t _ ht]
  cases hq : P.info? (P.elem t) with
  | none => rw [hq] at hs; cases hs
  | some inf =>
    have hsz : (sizeOf (P.elem t)).run P w = .ok inf.size w := by simp [sizeOf, typeInfo, hq]
    simp only [hsz, Result.andThen_ok, slicedAt, Nat.sub_zero, Nat.zero_mul]
    split
    · rfl
    · rw [add_plain, Nat.add_zero]
theorem wpList_copy_into {w : World} {ops : Array Oper} {rest : List Oper} {o : Oper} {a : Act} {Q : Exit → Act → World → Prop} (hgd : o.guard = none) (d s : Operand) (dT sT : TypeId)
    (ho : o.op = .call { callee := .builtin .copy, args := #[d, s], argTypes := #[dT, sT] }) (elem : TypeId) (hu : P.underlying dT = some (.slice elem)) (hsz : (P.info? elem).map (·.size) = some 1)
    (g off dLen dCap : Nat) (ad : Addr) (sLen sCap : Nat) (hd : a.eval d = .slice (some ⟨g, off, none⟩) dLen dCap) (hs : a.eval s = .slice (some ad) sLen sCap)
    (cur : Array Value) (t : TypeId) (hg : w.heap[g]? = some (.cells cur t (0, 0))) (cs : List Value) (k : Nat) (hk : cs.length = k) (hn : k = Nat.min sLen dLen)
    (hsrc : ∀ j v, cs[j]? = some v → w.cell? (ad.add j) = some v) (hfit : off + k ≤ cur.size) (h1 : ∀ v ∈ cs, v.oneCell' = true)
    (new : Array Value) (hnew : (cur.toList.take off ++ (cs ++ cur.toList.drop (off + k))).toArray = new)
    (h : wpList P ops Q rest (a.put o.dst (.int .i64 (k : Int))) (w.setRow g new)) : wpList P ops Q (o :: rest) a w := by
  subst hk hnew
  exact wpList_copy_own hgd d s dT sT ho elem hu hsz g off dLen dCap ad sLen sCap hd hs cur t hg cs hn hsrc hfit h1 h
theorem run_slice_adv (w : World) (t : TypeId) (ht : P.underlying t = some (.slice (P.elem t))) (hs : (P.info? (P.elem t)).map (·.size) = some 1) (ao : Option Addr) (len cap i : Nat) (k : IntKind) (hi : i ≤ len) :
    (Instr.sliceAt t (.slice ao len cap) (some (.int k (i : Int))) none none).run P w = .ok (.slice (adv ao cap i) (len - i) (cap - i)) w := by
  rw [run_sliceAt_slice w t _ _ _ _ ht, run_slice_l w t ao len cap ht k (i : Int) (by omega) (by omega)]
  cases hq : P.info? (P.elem t) with
  | none => rw [hq] at hs; cases hs
  | some inf =>
    rw [hq] at hs
    have hs' : inf.size = 1 := by simpa using hs
    have hsz : (sizeOf (P.elem t)).run P w = .ok 1 w := by rw [← hs']; simp [sizeOf, typeInfo, hq]
    simp only [hsz, Result.andThen_ok, sliced, Int.toNat_natCast]
    rfl
theorem wpList_slice_l {w : World} {ops : Array Oper} {rest : List Oper} {o : Oper} {a : Act} {Q : Exit → Act → World → Prop} (hgd : o.guard = none) (t : TypeId) (x y : Operand) (ho : o.op = .slice t x (some y) none none)
    (ht : P.underlying t = some (.slice (P.elem t))) (hs : (P.info? (P.elem t)).map (·.size) = some 1) (ao : Option Addr) (len cap : Nat) (hx : a.eval x = .slice ao len cap) (i : Nat) (k : IntKind) (hy : a.eval y = .int k (i : Int)) (hi : i ≤ len)
    (h : wpList P ops Q rest (a.put o.dst (.slice (adv ao cap i) (len - i) (cap - i))) w) : wpList P ops Q (o :: rest) a w :=
  wpList_plain hgd fun _ hK => by
    unfold Oper.wp execOp
    simp only [ho, hx, hy, Option.map_some, Option.map_none]
    rw [Sem.run_bind, run_sliceAt_slice w t _ _ _ _ ht, run_slice_l w t ao len cap ht k (i : Int) (by omega) (by omega)]
    cases hq : P.info? (P.elem t) with
    | none => rw [hq] at hs; cases hs
    | some inf =>
      rw [hq] at hs
      have hs' : inf.size = 1 := by simpa using hs
      have hsz : (sizeOf (P.elem t)).run P w = .ok 1 w := by rw [← hs']; simp [sizeOf, typeInfo, hq]
      simp only [hsz, Sem.run_pure, Result.andThen_ok, sliced, Int.toNat_natCast]
      exact hK _ _ h
theorem wpList_slice_h {w : World} {ops : Array Oper} {rest : List Oper} {o : Oper} {a : Act} {Q : Exit → Act → World → Prop} (hgd : o.guard = none) (t : TypeId) (x y : Operand) (ho : o.op = .slice t x none (some y) none)
    (ht : P.underlying t = some (.slice (P.elem t))) (hs : (P.info? (P.elem t)).isSome = true) (ao : Option Addr) (len cap : Nat) (hx : a.eval x = .slice ao len cap) (i : Nat) (k : IntKind) (hy : a.eval y = .int k (i : Int)) (hi : i ≤ cap)
    (h : wpList P ops Q rest (a.put o.dst (.slice ao i cap)) w) : wpList P ops Q (o :: rest) a w :=
  wpList_plain hgd fun _ hK => by
    unfold Oper.wp execOp
    simp only [ho, hx, hy, Option.map_some, Option.map_none]
    rw [Sem.run_bind, run_sliceAt_slice w t _ _ _ _ ht, run_slice_h w t ao len cap ht k (i : Int) (by omega) (by omega)]
    cases hq : P.info? (P.elem t) with
    | none => rw [hq] at hs; cases hs
    | some inf =>
      have e : (Value.slice (if cap = 0 then ao else ao.map (·.add (0 * inf.size))) (i - 0) (cap - 0)) = .slice ao i cap := by
        rw [Nat.zero_mul, Nat.sub_zero, Nat.sub_zero]
        congr 1
        split
        · rfl
        · cases ao <;> rfl
      have hsz : (sizeOf (P.elem t)).run P w = .ok inf.size w := by simp [sizeOf, typeInfo, hq]
      simp only [hsz, Sem.run_pure, Result.andThen_ok, sliced, Int.toNat_natCast, e]
      exact hK _ _ h
end

end Go.Proofs.Ytdgdpbmaalcedaa
