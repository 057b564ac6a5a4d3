/- StoreCounts: the store, its handles and the map of sides, in memory and plainly. -/
import Derived.Test.YtdgdpbmaalcedaaDo7
import Derived.Test.YtdgdpbmaalcedaaCountsM
import Derived.Maps.OwnOps
import Derived.Maps.OwnSet
import Derived.Maps.RangeWalk
namespace Go.Proofs.Ytdgdpbmaalcedaa.Law7
open Go Go.RowKit Go.Proofs.Ytdgdpbmaalcedaa Go.Proofs.Ytdgdpbmaalcedaa.ShaW Go.Proofs.Ytdgdpbmaalcedaa.Path Go.Proofs.Ytdgdpbmaalcedaa.Store Go.Maps
set_option maxHeartbeats 800000
set_option linter.unusedVariables false

/-! ### Sides, plainly -/
def upTo (σ : SlabSt Nd) (l : List Nat) (x : Int) : Nat := (l.map fun h => refs (nd σ (h : Nat)) x).sum
theorem refs_le (n : Nd) (x : Int) : refs n x ≤ 2 := by unfold refs; split <;> split <;> omega
theorem upTo_le (σ : SlabSt Nd) (x : Int) : ∀ l, upTo σ l x ≤ 2 * l.length
  | [] => by simp [upTo]
  | a :: l => by
    have := upTo_le σ x l
    have h2 := refs_le (nd σ (a : Nat)) x
    simp only [upTo, List.map_cons, List.sum_cons, List.length_cons] at this ⊢
    omega
theorem upTo_snoc (σ : SlabSt Nd) (l : List Nat) (h : Nat) (x : Int) : upTo σ (l ++ [h]) x = upTo σ l x + refs (nd σ (h : Nat)) x := by simp [upTo]
theorem upTo_occ (σ : SlabSt Nd) (x : Int) : ∀ k, k ≤ σ.slots.length → upTo σ (σ.occ k) x = ((σ.slots.take k).map (Store.part · x)).sum
  | 0, _ => by simp [upTo, SlabSt.occ]
  | k + 1, hk => by
    have hlt : k < σ.slots.length := by omega
    rw [List.take_add_one, List.getElem?_eq_getElem hlt]
    simp only [Option.toList_some, List.map_append, List.sum_append, List.map_cons, List.map_nil, List.sum_cons, List.sum_nil]
    rw [← upTo_occ σ x k (by omega)]
    by_cases h0 : (σ.slots[k]).2 = 0
    · have hx : σ.get? ((k : Int) + 1) = none := by
        unfold SlabSt.get?
        rw [if_pos (by omega), show ((k : Int) + 1 - 1).toNat = k by omega, List.getElem?_eq_getElem hlt]
        simp [Option.filter, h0]
      rw [SlabSt.occ_none hx]
      simp [Store.part, h0]
    · have hx := SlabSt.get?_of (List.getElem?_eq_getElem hlt) h0
      rw [SlabSt.occ_some hx, upTo_snoc]
      have : nd σ ((k + 1 : Nat) : Int) = (σ.slots[k]).1 := by rw [show ((k + 1 : Nat) : Int) = (k : Int) + 1 by omega]; exact nd_some hx
      rw [this]
      simp [Store.part, h0]
theorem upTo_all (σ : SlabSt Nd) (x : Int) : upTo σ (handles σ) x = sides σ x := by
  unfold handles
  rw [upTo_occ σ x _ (Nat.le_refl _), List.take_length]
  rfl
/-- Handles are small numbers. -/
theorem get_small {σ : SlabSt Nd} (hw : σ.WF (fun _ => True)) {k : Int} {y : Nd × Nat} (h : σ.get? k = some y) : 1 ≤ k ∧ k ≤ 65536 := by
  obtain ⟨m, rfl, _, _, hl⟩ := SlabSt.get?_some h
  have := hw.len
  have := hw.room
  omega
theorem wf_small {x : Int} (h0 : 0 ≤ x) (h1 : x ≤ 65536) : (Lit.int .i64 x).wf = true := WalkArith.wf_i64 (by omega)
theorem side_small {σ : SlabSt Nd} (hs : Sound σ []) (k : Int) : (0 ≤ (nd σ k).left ∧ (nd σ k).left ≤ 65536) ∧ (0 ≤ (nd σ k).right ∧ (nd σ k).right ≤ 65536) := by
  cases hx : σ.get? k with
  | none => rw [nd_none hx]; exact ⟨⟨by decide, by decide⟩, ⟨by decide, by decide⟩⟩
  | some x =>
    rw [nd_some hx]
    constructor
    · by_cases h0 : x.1.left = 0
      · omega
      · obtain ⟨y, hy, _⟩ := hs.left k x hx h0
        have := get_small hs.wf hy
        omega
    · by_cases h0 : x.1.right = 0
      · omega
      · obtain ⟨y, hy, _⟩ := hs.right k x hx h0
        have := get_small hs.wf hy
        omega

/-! ### The map of sides -/
noncomputable abbrev elemI : Value → Option (DataW Value × List MemPlace) := plainElem Try.prog 3
theorem lawI : Keyed Try.prog 3 := int_keyed Try.underlying3
theorem zeroOfInt (w : World) : (zeroValue 3).run Try.prog w = .ok (.int .i64 0) w := by kernel_rfl
def MapAt (w : World) (b n : Nat) (f : Int → Nat) : Prop := ∃ D, w.ownsMap Try.prog 3 elemI b n D ∧ ∀ x : Int, D.atKey (ky x) (num 0) = num (f x)
theorem MapAt.keep {F : Nat → Prop} {w w' : World} {b n : Nat} {f : Int → Nat} (h : MapAt w b n f) (hc : Ch F w w') (hb : ¬ F b) : MapAt w' b n f := by
  obtain ⟨D, ⟨es, clock, hg, r⟩, h2⟩ := h
  exact ⟨D, ⟨es, clock, hc.row hg hb, r⟩, h2⟩
theorem MapAt.lt {w : World} {b n : Nat} {f : Int → Nat} (h : MapAt w b n f) : b < w.heap.size := by
  obtain ⟨D, ⟨es, clock, hg, r⟩, h2⟩ := h
  exact row_lt hg
theorem MapAt.look {w : World} {b n : Nat} {f : Int → Nat} (h : MapAt w b n f) {x : Int} (hx : (Lit.int .i64 x).wf = true) :
    (Instr.lookup 42 (.map (some b)) (.int .i64 x) false).run Try.prog w = .ok (.int .i64 (f x : Nat)) w := by
  obtain ⟨D, h1, h2⟩ := h
  obtain ⟨c, hr, hc, _⟩ := h1.lookup_int lawI Try.underlying42 Try.underlying3 (zeroOfInt w) (keyOf_int_mk Try.underlying3 hx)
  have := h2 x
  rw [show num 0 = .lit (.int .i64 0) from rfl, show ky x = .int .i64 x from rfl, hc] at this
  simp only [num, DataW.lit.injEq, Lit.int.injEq, true_and] at this
  rw [hr, this]
def bumpF (f : Int → Nat) (x : Int) : Int → Nat := fun y => f y + if x = y then 1 else 0
theorem wp_bumpMap {w : World} {b n : Nat} {f : Int → Nat} (h : MapAt w b n f) (hn : n < maxLen) {ops : Array Oper} {rest : List Oper} {o : Oper} {a : Act} {Q : Exit → Act → World → Prop}
    (hg : o.guard = none) (m x v : Operand) (hop : o.op = Op.mapUpdate 42 m x v) (hm : a.eval m = .map (some b)) (y : Int) (hx : a.eval x = .int .i64 y) (hy : (Lit.int .i64 y).wf = true) (c : Int) (hv : a.eval v = .int .i64 c) (hc : c = (f y : Nat) + 1) (hcw : (Lit.int .i64 c).wf = true)
    (hK : ∀ w', MapAt w' b (n + 1) (bumpF f y) → Ch (fun k => k = b) w w' → wpList Try.prog ops Q rest (a.put o.dst undef) w') : wpList Try.prog ops Q (o :: rest) a w := by
  obtain ⟨D, h1, h2⟩ := h
  refine wpList_mapUpdate_own w hg m x v _ hop 3 3 lawI Try.underlying42 elemI b n D hm h1 hn _ _ (ky y) hx hv (keyOf_int_mk Try.underlying3 hy) (num c) [] (plainElem_int Try.underlying3 hcw) ?_
  intro w' h3 h4
  refine hK w' ⟨_, h3, fun z => ?_⟩ ((Ch.refl _ w).grown h4 (fun k hk => .inl (by cases hk; rfl)))
  by_cases hz : z = y
  · subst hz
    obtain ⟨es, clock, _, _, _, rfl⟩ := h1
    rw [Maps.atKey_put_same (by first | exact ⟨_, rfl⟩ | trivial) (ky_key _), hc]
    simp [bumpF]
  · rw [Maps.atKey_put_other (ky_ne hz), h2]
    simp [bumpF, Ne.symm hz]
theorem MapAt.cong {w : World} {b n : Nat} {f g : Int → Nat} (h : MapAt w b n f) (e : ∀ x, f x = g x) : MapAt w b n g := by
  obtain ⟨D, h1, h2⟩ := h
  exact ⟨D, h1, fun x => by rw [h2, e]⟩

/-! ### The handles' row -/
theorem row_at {w : World} {base m : Nat} {ao : Option Addr} {cap : Nat} {l : List Nat} (h : w.ownsRow base 3 1 (.slice ao m cap) m (ints l)) {k : Nat} (hk : k < m) (hl : l.length = m) :
    ∃ g, ao = some ⟨g, 0, none⟩ ∧ w.cell? ⟨g, k, none⟩ = some (.int .i64 (l.getD k 0 : Nat)) := by
  obtain ⟨g, cap', cur, he, hg, h1, h2, h3, h4⟩ := owns_block h (by omega)
  cases he
  refine ⟨g, rfl, row_cell hg (take_get h4 ?_)⟩
  have : k < l.length := by omega
  simp [ints, this]
end Go.Proofs.Ytdgdpbmaalcedaa.Law7
