/- The kit's calls on values: are two the same; write over one, up to its capacity. -/
import Derived.Test.YtmeglndnkdgkoaaGreatList2
import Derived.Test.YtmeglndnkdgkoaaGreatLawsA
namespace Go.Proofs.YtmeglndnkdgkoaaGreat.Store
open Go Go.RowKit Go.Sort Go.Proofs.YtmeglndnkdgkoaaGreat Go.Proofs.YtmeglndnkdgkoaaGreat.ShaW Go.Proofs.YtmeglndnkdgkoaaGreat.Path Go.Proofs.YtmeglndnkdgkoaaGreat.Law9
set_option maxHeartbeats 3200000
set_option linter.unusedVariables false

/-- Bytes in a row of their own, all of whose room is bytes. -/
def BytesRow (w : World) (n0 : Nat) (v : Value) (bs : List UInt8) : Prop :=
  (v = .slice none 0 0 ∧ bs = []) ∨ ∃ g c all, v = .slice (some ⟨g, 0, none⟩) bs.length c ∧ n0 ≤ g ∧ w.heap[g]? = some (.cells (brow all) 5 (0, 0)) ∧ all.length = c ∧ all.take bs.length = bs ∧ c ≤ maxLen ∧ bs.length ≤ c
section
variable {w w' : World} {n0 n1 : Nat} {v : Value} {bs : List UInt8}
theorem BytesRow.keep (h : BytesRow w n0 v bs) {F : Nat → Prop} (c : Ch F w w') (hd : ∀ k, v.ownBlock = some k → ¬ F k) : BytesRow w' n0 v bs := by
  rcases h with h | ⟨g, cp, all, rfl, h1, h2, h3⟩
  · exact .inl h
  · exact .inr ⟨g, cp, all, rfl, h1, c.row h2 (hd g rfl), h3⟩
theorem BytesRow.base (h : BytesRow w n0 v bs) (hb : ∀ k, v.ownBlock = some k → n1 ≤ k) : BytesRow w n1 v bs := by
  rcases h with h | ⟨g, cp, all, rfl, h1, h2, h3⟩
  · exact .inl h
  · exact .inr ⟨g, cp, all, rfl, hb g rfl, h2, h3⟩
theorem BytesRow.lt (h : BytesRow w n0 v bs) : ∀ k, v.ownBlock = some k → n0 ≤ k ∧ k < w.heap.size := fun k hk => by
  rcases h with ⟨rfl, _⟩ | ⟨g, cp, all, rfl, h1, h2, _⟩
  · cases hk
  · cases hk
    exact ⟨h1, row_lt h2⟩
theorem brow_take_get {all bs : List UInt8} {i : Nat} {x : UInt8} (h : all.take bs.length = bs) (hx : bs[i]? = some x) : (brow all)[i]? = some (bv x) := by
  have hi := (List.getElem?_eq_some_iff.1 hx).1
  have : all[i]? = some x := by rw [← h, List.getElem?_take_of_lt hi] at hx; exact hx
  unfold brow
  rw [List.getElem?_toArray, List.getElem?_map, this]
  rfl
theorem BytesRow.bytes (h : BytesRow w n0 v bs) : Bytes w v bs := by
  rcases h with ⟨rfl, rfl⟩ | ⟨g, cp, all, rfl, h1, h2, h3, h4, h5, h6⟩
  · exact Bytes.nil w
  · exact ⟨_, cp, rfl, h6, h5, fun j y hy => ⟨g, 0, rfl, by rw [Nat.zero_add]; exact row_cell h2 (brow_take_get h4 hy)⟩⟩
end
theorem zero_bytes (k : Nat) : Builtin.zeroCells #[.int .u8 0] k = brow (List.replicate k 0) := by
  unfold Builtin.zeroCells brow
  apply Array.ext'
  simp only [List.size_toArray, List.length_cons, List.length_nil, Nat.zero_add, Nat.mul_one, Array.toList_map, Array.toList_range, List.map_replicate]
  apply List.ext_getElem
  · simp
  · intro i h1 h2
    simp [Nat.mod_one, bv]
theorem brow_app (a b : List UInt8) : brow a ++ brow b = brow (a ++ b) := by simp [brow]
theorem run_append_copy' {P : Program} (w : World) (t ty e : TypeId) (he : e = 5) (i : TypeInfo) (ht : P.underlying t = some (.slice e)) (hi : P.info? e = some i) (hz : i.zero = some (.int .u8 0)) (hsize : i.size = 1) (hby : i.bytes = 1)
    (xv : Value) (bs : List UInt8) (hb : Bytes w xv bs) (hlen : bs.length ≤ 140737488355328) :
    ∃ v' w', (Builtin.append_ #[t, t] ty #[.slice none 0 0, xv]).run P w = .ok v' w' ∧ BytesRow w' w.heap.size v' bs ∧ Adds w w' := by
  subst he
  obtain ⟨ao, cap, rfl, hcap, hcm, hat⟩ := hb
  cases bs with
  | nil =>
    refine ⟨_, w, run_append_nothing w t t ty _ i ht hi none 0 0 (Nat.le_refl _) _ ?_, .inl ⟨rfl, rfl⟩, Ch.refl _ _⟩
    cases ao with
    | none => exact Src.ofNil w ht cap
    | some ad => exact Src.ofSlice w ht ad 0 cap [] (by simp) (fun j u h => by simp at h) (fun u h => by cases h)
  | cons x bs =>
    obtain ⟨g, off, rfl, _⟩ := hat 0 x rfl
    have hnews : ∀ j u, ((x :: bs).map bv)[j]? = some u → w.cell? ((⟨g, off, none⟩ : Addr).add j) = some u := fun j u hu => by
      rw [List.getElem?_map] at hu
      obtain ⟨y, hy, rfl⟩ := Option.map_eq_some_iff.1 hu
      obtain ⟨g', o', he, hc⟩ := hat j y hy
      cases he
      rw [add_plain]
      exact hc
    have hr := run_append_nil (P := P) w t ty _ i (.int .u8 0) ht hi hz ⟨g, off, none⟩ (x :: bs).length cap ((x :: bs).map bv) (by simp [hsize]) hnews (by simp) (by omega) (by rw [hby]; omega)
    have hge := grownCap_ge w (x :: bs).length 0 5
    have hcm2 : grownCap w (x :: bs).length 0 5 ≤ maxLen := grownCap_le_maxLen w _ 0 _ (by unfold maxLen; omega)
    obtain ⟨C, hC⟩ : ∃ C, C = grownCap w (x :: bs).length 0 5 := ⟨_, rfl⟩
    rw [← hC] at hr hge hcm2
    refine ⟨_, _, hr, .inr ⟨w.heap.size, C, (x :: bs) ++ List.replicate (C - (x :: bs).length) 0, rfl, Nat.le_refl _, ?_, ?_, ?_, hcm2, hge⟩, ((Ch.refl _ _).drew).alloc _⟩
    · rw [show (Value.int .u8 0).cells = #[.int .u8 0] from rfl, zero_bytes, show ((x :: bs).map bv).toArray = brow (x :: bs) from rfl, brow_app]
      exact heap_alloc_new w.drew _
    · rw [List.length_append, List.length_replicate]; omega
    · exact List.take_left
set_option maxRecDepth 100000 in
theorem SameBytes_ok {w : World} {a b : Value} {xs ys : List UInt8} (ha : Bytes w a xs) (hb : Bytes w b ys) :
    Calls Tryz.prog 103 #[a, b] w fun e w' => e = .returned (.bool (decide (xs = ys))) ∧ w' = w := by
  have c1 := conv_bytes ha
  have c2 := conv_bytes hb
  obtain ⟨ao, ca, rfl, _⟩ := ha.form
  obtain ⟨bo, cb, rfl, _⟩ := hb.form
  obtain ⟨A, hA⟩ : ∃ A, A = bstr xs := ⟨_, rfl⟩
  obtain ⟨B, hB⟩ : ∃ B, B = bstr ys := ⟨_, rfl⟩
  have hq : (A.toList == B.toList) = decide (xs = ys) := by rw [hA, hB]; exact bstr_eq xs ys
  rw [← hA] at c1
  rw [← hB] at c2
  obtain ⟨r, hr⟩ : ∃ r, r = decide (xs = ys) := ⟨_, rfl⟩
  rw [← hr] at hq ⊢
  clear hA hB ha hb hr
  go_enter Tryz.func103, Tryz.ntmps103
  go_wp2
  go_ret
  exact ⟨by first | rw [hq] | rfl, rfl⟩
def over (x : UInt8) : UInt8 := x ^^^ 90
theorem over_bits (x : UInt8) : bits .xor .u8 (x.toNat : Int) 90 = ((over x).toNat : Int) := xor_byte x 90
set_option maxRecDepth 100000 in
theorem OverBytes_ok {w : World} {n0 : Nat} {v : Value} {bs : List UInt8} (h : BytesRow w n0 v bs) :
    Calls Tryz.prog 64 #[v] w fun e w' => (∃ u, e = .returned u) ∧ Ch (fun k => v.ownBlock = some k) w w' := by
  rcases h with ⟨rfl, rfl⟩ | ⟨g, c, all, rfl, h1, h2, h3, h4, h5, h6⟩
  · have hs : ∀ w0 : World, (Instr.sliceAt 32 (.slice none 0 0) none (some (.int .i64 0)) none).run Tryz.prog w0 = .ok (.slice none 0 0) w0 := fun w0 => by kernel_rfl
    go_enter Tryz.func64, Tryz.ntmps64
    go_wp2
    go_loopw [3] (fun i wr => i = .int .i64 0 ∧ wr = w) (fun i _ => 0)
    case atStart => exact ⟨rfl, rfl⟩
    case round =>
      obtain ⟨rfl, rfl⟩ := hrel
      go_wp2
      go_end0
      exact ⟨⟨_, rfl⟩, Ch.refl _ _⟩
  · obtain ⟨m, hm⟩ : ∃ m, m = bs.length := ⟨_, rfl⟩
    rw [← hm] at h6
    have hmc : m ≤ c := h6
    have hs : ∀ w0 : World, (Instr.sliceAt 32 (.slice (some ⟨g, 0, none⟩) m c) none (some (.int .i64 (c : Int))) none).run Tryz.prog w0 = .ok (.slice (some ⟨g, 0, none⟩) c c) w0 := fun w0 => by
      have ht : Tryz.prog.underlying 32 = some (.slice (Tryz.prog.elem 32)) := by kernel_rfl
      rw [run_sliceAt_slice w0 _ _ _ _ _ ht, run_slice_h w0 _ (some ⟨g, 0, none⟩) m c ht .i64 (c : Int) (by omega) (by omega)]
      obtain ⟨z, hz⟩ : ∃ z, (sizeOf (Tryz.prog.elem 32)).run Tryz.prog w0 = .ok z w0 := ⟨1, by kernel_rfl⟩
      have e : (Value.slice (if c = 0 then some ⟨g, 0, none⟩ else (some ⟨g, 0, none⟩ : Option Addr).map (·.add (0 * z))) (c - 0) (c - 0)) = .slice (some ⟨g, 0, none⟩) c c := by
        rw [Nat.zero_mul, Nat.sub_zero]
        congr 1
        split <;> rfl
      simp only [hz, sliced, Int.toNat_natCast, e, Result.andThen_ok]
    have hcm : (c : Int) ≤ 9223372036854775807 := by unfold maxLen at h5; omega
    have HAll := Lib.hid (And.intro h2 h3)
    rw [← hm]
    clear h1 h2 h3 h4 h5 h6 hm hmc
    go_enter Tryz.func64, Tryz.ntmps64
    go_wp2
    go_loopw [3] (fun i wr => ∃ (k : Nat) (l : List UInt8), k ≤ c ∧ i = .int .i64 k ∧ wr.heap[g]? = some (.cells (brow l) 5 (0, 0)) ∧ l.length = c ∧ Ch (fun j => j = g) w wr) (fun i _ => c - (intOf i).toNat)
    case atStart => exact ⟨0, all, Nat.zero_le _, rfl, HAll.out.1, HAll.out.2, Ch.refl _ _⟩
    case round =>
      obtain ⟨k, l, hk, rfl, hrow, hl, hch⟩ := hrel
      by_cases hlt : k < c
      · obtain ⟨x, hx⟩ : ∃ x, l[k]? = some x := ⟨_, List.getElem?_eq_getElem (by omega)⟩
        have c1 : wr.cell? ⟨g, k, none⟩ = some (bv x) := row_cell hrow (by unfold brow; rw [List.getElem?_toArray, List.getElem?_map, hx]; rfl)
        have f1 := row_free hrow k
        have hb := over_bits x
        have hkc : (k : Int) < (c : Int) := by omega
        have hset := row_set_same hrow k (bv (over x))
        have hbr : (brow l).setIfInBounds k (bv (over x)) = brow (l.set k (over x)) := by
          apply Array.ext'
          simp [brow, List.map_set]
        rw [hbr] at hset
        have HS := Lib.hid (And.intro hset (And.intro hl hch))
        generalize over x = y at hb HS
        clear hrow hx hset hbr hl hch hk
        go_wp2
        go_roundw
        case rel => exact ⟨k + 1, _, by omega, by first | rfl | simp, HS.out.1, by rw [List.length_set]; exact HS.out.2.1, HS.out.2.2.setCell (p := ⟨g, k, none⟩) (.inl rfl) _⟩
        case measure => simp [intOf]; omega
      · obtain rfl : k = c := by omega
        have HC := Lib.hid hch
        clear hrow hl hch hk hlt
        go_wp2
        go_end0
        exact ⟨⟨_, rfl⟩, HC.out.mono (fun j _ hj => by rw [hj]; rfl)⟩
end Go.Proofs.YtmeglndnkdgkoaaGreat.Store
