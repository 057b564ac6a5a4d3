/- node.root's parts: a row of pairs copied, parted, cut. -/
import Derived.Test.YtpeebeebakjpdaaGreatSortP
import Derived.Test.YtpeebeebakjpdaaGreatTurns9
import Derived.Lib.SliceRun
namespace Go.Proofs.YtpeebeebakjpdaaGreat.Law9
open Go Go.RowKit Go.Sort Go.Proofs.YtpeebeebakjpdaaGreat Go.Proofs.YtpeebeebakjpdaaGreat.ShaW Go.Proofs.YtpeebeebakjpdaaGreat.Path Go.Proofs.YtpeebeebakjpdaaGreat.Store
set_option maxHeartbeats 1600000
set_option linter.unusedVariables false

/-! ### a row's parts -/
def advP (a : Option Addr) (cap i : Nat) : Option Addr := if cap = i then a else a.map (·.add (i * 33))
theorem sizePair : (Tryz.prog.info? (Tryz.prog.elem 50)).map (·.size) = some 33 := by kernel_rfl
theorem slicePair : Tryz.prog.underlying 50 = some (.slice (Tryz.prog.elem 50)) := by kernel_rfl
theorem sizeOfPair (w : World) : (sizeOf (Tryz.prog.elem 50)).run Tryz.prog w = .ok 33 w := by
  have hs := sizePair
  cases hq : Tryz.prog.info? (Tryz.prog.elem 50) with
  | none => rw [hq] at hs; cases hs
  | some inf =>
    rw [hq] at hs
    have hs' : inf.size = 33 := by simpa using hs
    rw [← hs']; simp [sizeOf, typeInfo, hq]
theorem run_pairs_l (w : World) (ao : Option Addr) (len cap i : Nat) (hi : i ≤ len) :
    (Instr.sliceAt 50 (.slice ao len cap) (some (.int .i64 (i : Int))) none none).run Tryz.prog w = .ok (.slice (advP ao cap i) (len - i) (cap - i)) w := by
  rw [run_sliceAt_slice w _ _ _ _ _ slicePair, run_slice_l w _ ao len cap slicePair .i64 (i : Int) (by omega) (by omega)]
  simp only [sizeOfPair w, Result.andThen_ok, sliced, Int.toNat_natCast]
  rfl
theorem run_pairs_h (w : World) (ao : Option Addr) (len cap i : Nat) (hi : i ≤ cap) :
    (Instr.sliceAt 50 (.slice ao len cap) none (some (.int .i64 (i : Int))) none).run Tryz.prog w = .ok (.slice ao i cap) w := by
  rw [run_sliceAt_slice w _ _ _ _ _ slicePair, run_slice_h w _ ao len cap slicePair .i64 (i : Int) (by omega) (by omega)]
  have e : (Value.slice (if cap = 0 then ao else ao.map (·.add (0 * 33))) (i - 0) (cap - 0)) = .slice ao i cap := by
    rw [Nat.zero_mul, Nat.sub_zero, Nat.sub_zero]
    congr 1
    split
    · rfl
    · cases ao <;> rfl
  simp only [sizeOfPair w, Result.andThen_ok, sliced, Int.toNat_natCast, e]
theorem PairsAt.take {w : World} {ao : Option Addr} {l : List Pr} (h : PairsAt w ao l) (n : Nat) : PairsAt w ao (l.take n) :=
  ⟨fun x hx => h.1 x (List.mem_of_mem_take hx), fun i x hi => by
    rw [List.getElem?_take] at hi
    split at hi
    · exact h.2 i x hi
    · cases hi⟩
theorem PairsAt.drop {w : World} {ao : Option Addr} {l : List Pr} (h : PairsAt w ao l) (n cap : Nat) (hc : l.length ≤ cap) : PairsAt w (advP ao cap n) (l.drop n) :=
  ⟨fun x hx => h.1 x (List.mem_of_mem_drop hx), fun i x hi => by
    rw [List.getElem?_drop] at hi
    obtain ⟨g, off, rfl, hp⟩ := h.2 _ x hi
    have hn : n + i < l.length := (List.getElem?_eq_some_iff.1 hi).1
    refine ⟨g, off + n * 33, ?_, by rw [show off + n * 33 + i * 33 = off + (n + i) * 33 by omega]; exact hp⟩
    unfold advP
    rw [if_neg (by omega)]
    simp [add_plain]⟩
/-! ### a copy -/
theorem flat_cells {w : World} {g off : Nat} {l : List Pr} (hk : KeyOk l) (hl : ∀ i x, l[i]? = some x → PartAt w g (off + i * 33) x.cells) : ∀ j u, (flatP l)[j]? = some u → w.cell? ⟨g, off + j, none⟩ = some u := fun j u hu => by
  have hj := (List.getElem?_eq_some_iff.1 hu).1
  rw [flatP_length l hk] at hj
  have hi : j / 33 < l.length := by omega
  have hx : l[j / 33]? = some l[j / 33] := List.getElem?_eq_getElem hi
  have hs := Pr.size (hk _ (List.getElem_mem hi))
  obtain ⟨cur, t, fr, hr, h1, h2⟩ := hl _ _ hx
  have hm : j % 33 < 33 := Nat.mod_lt _ (by omega)
  have e1 : ((flatP l).drop (j / 33 * 33)).take 33 = (l[j / 33]).cells.toList := flatP_get hk hx
  have e2 : (l[j / 33]).cells.toList[j % 33]? = some u := by
    rw [← e1, List.getElem?_take, if_pos hm, List.getElem?_drop, show j / 33 * 33 + j % 33 = j by omega]
    exact hu
  rw [show off + j = off + j / 33 * 33 + j % 33 by omega]
  refine row_cell hr ?_
  rw [Array.getElem?_toList, ← h2, Array.getElem?_extract, if_pos (by omega)] at e2
  exact e2
theorem flat_one {w : World} {l : List Pr} (h : ∀ x ∈ l, x.Good w) : ∀ u ∈ flatP l, u.oneCell' = true := fun u hu => by
  obtain ⟨x, hx, hm⟩ := List.mem_flatMap.1 hu
  exact Pr.one (h x hx) u hm
set_option maxRecDepth 100000 in
theorem Clone_ok {w : World} {ao : Option Addr} {l : List Pr} (cap : Nat) (h : PairsAt w ao l) (hn : l.length ≤ 4096) :
    Calls Tryz.prog 143 #[.slice ao l.length cap] w fun e w' => ∃ ao' cap', e = .returned (.slice ao' l.length cap') ∧ Adds w w' ∧
      (l ≠ [] → ∃ g cur, ao' = some ⟨g, 0, none⟩ ∧ w.heap.size ≤ g ∧ l.length ≤ cap' ∧ w'.heap[g]? = some (.cells cur 101 (0, 0)) ∧ l.length * 33 ≤ cur.size ∧ ∀ i x, l[i]? = some x → cur.extract (i * 33) (i * 33 + 33) = x.cells) := by
  have hk : KeyOk l := fun x hx => (h.1 x hx).key
  obtain ⟨i0, z0, p1, p2, p3, p4, p5⟩ := pair_info
  cases ao with
  | none =>
    have hl : l = [] := by
      cases l with
      | nil => rfl
      | cons x r =>
        obtain ⟨g, off, h1, _⟩ := h.2 0 x rfl
        cases h1
    subst hl
    have hd : ∀ w0, (Go.binOp BinOp.eql 50 (.slice none 0 cap) (.slice none 0 0)).run Tryz.prog w0 = .ok (.bool true) w0 := fun w0 => Lib.run_eql_slice_nil w0 _ _ none 0 cap 0 0 slicePair
    clear h hn hk p1 p2 p3 p4 p5
    go_enter Tryz.func143, Tryz.ntmps143
    go_wp2
    go_ret
    exact ⟨none, 0, rfl, Ch.refl _ _, fun h => absurd rfl h⟩
  | some ad =>
    have hone := flat_one h.1
    have hfl := flatP_length l hk
    have hcells : ∀ j u, (flatP l)[j]? = some u → (w.alloc (.cells #[] 101)).cell? (ad.add j) = some u := fun j u hu => by
      have hj := (List.getElem?_eq_some_iff.1 hu).1
      have hl0 : 0 < l.length := by omega
      obtain ⟨g, off, h1, _⟩ := h.2 0 _ (List.getElem?_eq_getElem hl0)
      injection h1 with h1
      subst h1
      rw [add_plain]
      refine ((Ch.refl (fun _ => False) w).alloc _).cell (flat_cells hk (fun i x hx => ?_) j u hu) id
      obtain ⟨g', off', h1', h2'⟩ := h.2 i x hx
      injection h1' with h1'
      injection h1' with a b
      subst a b
      exact h2'
    have hbase : (w.alloc (.cells #[] 101)).ownsRow 0 101 33 (.slice (some ⟨w.heap.size, 0, none⟩) 0 0) 0 [] := ⟨by simp, .inr ⟨w.heap.size, 0, #[], rfl, Nat.zero_le _, heap_alloc_new _ _, Nat.le_refl _, Nat.zero_le _, rfl, by simp⟩⟩
    have HI := Lib.hid (And.intro p1 (And.intro p2 (And.intro p3 (And.intro p4 p5))))
    have HC := Lib.hid (And.intro hcells (And.intro hone hfl))
    have HB := Lib.hid hbase
    have HK := Lib.hid (And.intro hk hn)
    obtain ⟨len, hlen⟩ : ∃ len, len = l.length := ⟨_, rfl⟩
    obtain ⟨F, hF⟩ : ∃ F, F = flatP l := ⟨_, rfl⟩
    rw [← hlen]
    have hd : ∀ w0, (Go.binOp BinOp.eql 50 (.slice (some ad) len cap) (.slice none 0 0)).run Tryz.prog w0 = .ok (.bool false) w0 := fun w0 => Lib.run_eql_slice_nil w0 _ _ (some ad) len cap 0 0 slicePair
    have HL := Lib.hid hlen
    have HF := Lib.hid hF
    clear hcells hone hfl hbase hk hn p1 p2 p3 p4 p5 h hlen hF
    go_enter Tryz.func143, Tryz.ntmps143
    go_wp2_with (first
      | fail
      | (at_builtin; refine wpList_append_mine rfl _ _ 50 rfl 101 i0 z0 33 56 Tryz.underlying50 HI.out.1 HI.out.2.1 HI.out.2.2.1 HI.out.2.2.2.1 HI.out.2.2.2.2 (by decide) _ 0 [] rfl HB.out ad len cap F rfl (by rw [HF.out, HL.out, HC.out.2.2]) (by rw [HF.out]; exact HC.out.1) (by rw [HF.out]; exact HC.out.2.1) (by have := HK.out.2; have := HL.out; unfold maxLen; omega) (by have := HK.out.2; have := HL.out; omega) ?_; intro v' w4 own' grow' loc'))
    rw [Nat.zero_add, List.nil_append, HF.out] at own'
    obtain ⟨o4, c4, hv4⟩ := owns_form own'
    subst hv4
    have hA4 : Adds w w4 := ((Ch.refl _ w).alloc _).grown grow' (fun k hk => by cases hk; exact .inr (Nat.le_refl _))
    have hrow : RowP w4 0 (.slice o4 len c4) l := by rw [HL.out] at own' ⊢; exact own'
    have H4 := Lib.hid (And.intro hA4 (And.intro hrow own'))
    have LOC := Lib.hid loc'
    clear own' grow' loc' hA4 hrow
    go_wp2
    go_ret
    refine ⟨o4, c4, rfl, H4.out.1, fun hne => ?_⟩
    have hl0 : 0 < l.length := List.length_pos_iff.2 hne
    have hlen := HL.out
    subst hlen
    obtain ⟨g, cap', cur, e1, _, e3, e4, e5, _⟩ := RowP.open H4.out.2.1 HK.out.1 hl0
    injection e1 with e1 _ e2
    subst e1 e2
    have hcap : l.length ≤ c4 := by
      obtain ⟨_, ⟨_, h1⟩ | ⟨g', cap', cur', h1, _, _, h2, _⟩⟩ := H4.out.2.2
      · omega
      · injection h1 with _ _ h1
        omega
    refine ⟨g, cur, rfl, ?_, hcap, e3, e4, e5⟩
    rcases LOC.out with e | e
    · have : (some g : Option Nat) = some w.heap.size := e
      injection this with this
      omega
    · have h1 := e g rfl
      have h2 := World.size_alloc w (.cells #[] 101)
      omega
end Go.Proofs.YtpeebeebakjpdaaGreat.Law9
