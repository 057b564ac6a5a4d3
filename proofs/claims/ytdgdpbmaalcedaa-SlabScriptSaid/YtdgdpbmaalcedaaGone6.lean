/- SlabScript: are the things gone over as the document says. -/
import Derived.Test.YtdgdpbmaalcedaaRef6E
import Derived.Test.YtdgdpbmaalcedaaSlabOR2
namespace Go.Proofs.Ytdgdpbmaalcedaa
open Go Go.RowKit Go.Shelf
set_option maxHeartbeats 1600000
set_option linter.unusedVariables false
attribute [local go_sem] Oper.semAt_some

/-- The things are numbers. -/
def Nums (σ : SlabSt) : Prop := ∀ s ∈ σ.slots, ∃ n : Int, s.1 = .int .i64 n
theorem thing_num {σ : SlabSt} (hn : Nums σ) {k n : Nat} (h : (σ.occ σ.slots.length)[k]? = some n) : ∃ y : Int, SlabI.thing σ n = .int .i64 y ∧ ((σ.get? n).map (·.1)).getD (.int .i64 0) = .int .i64 y ∧ (σ.get? n).isSome = true := by
  obtain ⟨m, s, rfl, hm, hs, h0, ht⟩ := SlabI.occ_held σ.slots.length (Nat.le_refl _) n (List.mem_of_getElem? h)
  obtain ⟨y, hy⟩ := hn s (List.mem_of_getElem? hs)
  have hg := SlabSt.get?_of hs h0
  rw [show ((m + 1 : Nat) : Int) = (m : Int) + 1 by omega, hg]
  exact ⟨y, by rw [ht, hy], by simp [hy], rfl⟩

theorem things_nums {σ : SlabSt} (hn : Nums σ) {L : List Nat} (hL : L = σ.occ σ.slots.length) : ∃ T : List Int, T.length = L.length ∧ SlabI.filled σ L L.length = T.map (Value.int .i64) ∧
    ∀ k n : Nat, L[k]? = some n → ∃ y : Int, T[k]? = some y ∧ ((σ.get? n).map (·.1)).getD (.int .i64 0) = .int .i64 y ∧ (σ.get? n).isSome = true := by
  have hall : ∀ n ∈ L, ∃ y : Int, SlabI.thing σ n = .int .i64 y ∧ ((σ.get? n).map (·.1)).getD (.int .i64 0) = .int .i64 y ∧ (σ.get? n).isSome = true := fun n hm => by
    obtain ⟨k, hk⟩ := List.getElem?_of_mem hm
    rw [hL] at hk
    exact thing_num hn hk
  have : ∀ l : List Nat, (∀ n ∈ l, ∃ y : Int, SlabI.thing σ n = .int .i64 y ∧ ((σ.get? n).map (·.1)).getD (.int .i64 0) = .int .i64 y ∧ (σ.get? n).isSome = true) → ∃ T : List Int, T.length = l.length ∧ l.map (SlabI.thing σ) = T.map (Value.int .i64) ∧
      ∀ k n : Nat, l[k]? = some n → ∃ y : Int, T[k]? = some y ∧ ((σ.get? n).map (·.1)).getD (.int .i64 0) = .int .i64 y ∧ (σ.get? n).isSome = true := fun l => by
    induction l with
    | nil => intro _; exact ⟨[], rfl, rfl, fun k n h => by simp at h⟩
    | cons a l ih =>
      intro h
      obtain ⟨y, h1, h2, h3⟩ := h a (List.mem_cons_self ..)
      obtain ⟨T, q1, q2, q3⟩ := ih (fun n hn => h n (List.mem_cons_of_mem _ hn))
      refine ⟨y :: T, by simp [q1], by simp [h1, q2], fun k n hk => ?_⟩
      cases k with
      | zero => simp at hk; subst hk; exact ⟨y, rfl, h2, h3⟩
      | succ k => exact q3 k n (by simpa using hk)
  obtain ⟨T, q1, q2, q3⟩ := this L hall
  refine ⟨T, q1, ?_, q3⟩
  unfold SlabI.filled
  rw [List.take_length, Nat.sub_self]
  simpa using q2

set_option maxRecDepth 100000 in
theorem gone_ok {w : World} {A B : Nat} {F1 F2 : Nat → Prop} {σ : SlabSt} (h1 : SlabI.At SlabI.OkV w A F1 σ) (h2 : Ref6.At w B F2 σ) (hn : Nums σ) (stop : Int) :
    Calls Try.prog 26 #[.agg #[.pointer (some ⟨A, 0, none⟩), .pointer (some ⟨B, 0, none⟩)], .int .i64 stop] w fun e w' => e = .returned (.bool true) ∧ Below w.heap.size w w' := by
  have hlen : σ.slots.length ≤ 65536 := by have := h1.1.len; have := h1.1.room; omega
  have H1 := Lib.hid h1
  have H2 := Lib.hid h2
  obtain ⟨L, hL⟩ : ∃ L, L = σ.occ σ.slots.length := ⟨_, rfl⟩
  have hL6 : L.length ≤ 65536 := by have := σ.occ_len σ.slots.length; rw [hL]; omega
  have HL := Lib.hid (And.intro hL hL6)
  have hsl := fun w1 (ha : Ref6.Adds w w1) => Ref6.Slots_ok (h2.keep ha (fun _ _ h => h)) hlen
  have hal := fun w1 (ha : Ref6.Adds w w1) => SlabI.All_ok (h1.keep ha (fun _ _ h => h))
  rw [← hL] at hsl hal
  have HS := Lib.hid hsl
  have HA := Lib.hid hal
  have HN := Lib.hid hn
  clear h1 h2 hL hsl hal hL6 hn
  refine (callsIn_wide (n := 4)).1 ?_
  refine callsIn_of_wp_marks Try.func26 rfl trivial ?_ rfl
  simp only [Try.ntmps26, List.size_toArray, List.length_cons, List.length_nil, Nat.reduceAdd, Nat.reduceSub, Array.replicate_succ, Array.replicate_zero, List.push_toArray, List.append_toArray, List.nil_append, List.cons_append]
  have hW3 : Ref6.Adds w (((w.alloc (.cells #[.pointer (some ⟨A, 0, none⟩), .pointer (some ⟨B, 0, none⟩)] 53)).alloc (.cells #[.int .i64 stop] 3)).alloc (.cells #[.bool false] 4)) := (((Ch.refl _ _).alloc _).alloc _).alloc _
  have W3 := Lib.hid hW3
  clear hW3
  gi_wp2_with fail
  refine ⟨trivial, (callsIn_wide.2 (HS.out _ W3.out)).mono ?_⟩; rintro e w1 ⟨v, rfl, hown, ha1⟩
  obtain ⟨vo, vc, rfl⟩ := owns_form hown
  have HO := Lib.hid (And.intro hown ha1)
  have hp0 : w1.cell? ⟨w.heap.size, 0, none⟩ = some (.pointer (some ⟨A, 0, none⟩)) := ha1.cell (row_cell (row_alloc (row_alloc (heap_alloc_new w (.cells #[.pointer (some ⟨A, 0, none⟩), .pointer (some ⟨B, 0, none⟩)] 53)) _) _) rfl) id
  have hrp := row_alloc (ha1.row (row_alloc (row_alloc (heap_alloc_new w (.cells #[.pointer (some ⟨A, 0, none⟩), .pointer (some ⟨B, 0, none⟩)] 53)) _) _) id) (.cells #[.slice vo L.length vc] 58)
  have hrs := row_alloc (ha1.row (row_alloc (by have := heap_alloc_new (w.alloc (.cells #[.pointer (some ⟨A, 0, none⟩), .pointer (some ⟨B, 0, none⟩)] 53)) (.cells #[.int .i64 stop] 3); rw [World.size_alloc] at this; exact this : ((w.alloc (.cells #[.pointer (some ⟨A, 0, none⟩), .pointer (some ⟨B, 0, none⟩)] 53)).alloc (.cells #[.int .i64 stop] 3)).heap[w.heap.size + 1]? = some (.cells #[.int .i64 stop] 3 (0, 0))) (.cells #[.bool false] 4)) id) (.cells #[.slice vo L.length vc] 58)
  have hrb := row_alloc (ha1.row (by have := heap_alloc_new ((w.alloc (.cells #[.pointer (some ⟨A, 0, none⟩), .pointer (some ⟨B, 0, none⟩)] 53)).alloc (.cells #[.int .i64 stop] 3)) (.cells #[.bool false] 4); simp only [World.size_alloc] at this; exact this : (((w.alloc (.cells #[.pointer (some ⟨A, 0, none⟩), .pointer (some ⟨B, 0, none⟩)] 53)).alloc (.cells #[.int .i64 stop] 3)).alloc (.cells #[.bool false] 4)).heap[w.heap.size + 1 + 1]? = some (.cells #[.bool false] 4 (0, 0))) id) (.cells #[.slice vo L.length vc] 58)
  have hrw := heap_alloc_new w1 (.cells #[.slice vo L.length vc] 58)
  have hp1 := row_cell hrp (i := 0) rfl
  have hA4 : Ref6.Adds w (w1.alloc (.cells #[.slice vo L.length vc] 58)) := (W3.out.trans ha1 (fun _ h => h.elim)).alloc _
  have hs1 := ha1.size
  simp only [World.size_alloc] at hs1
  have RR := Lib.hid (And.intro hrp (And.intro hrs (And.intro hrb (And.intro hrw hA4))))
  have hs1' : w.heap.size + 1 + 1 < w1.heap.size := by omega
  clear hown ha1 hp0 hrp hrs hrb hrw hA4 hs1 W3
  gi_wp2_with fail
  refine ⟨trivial, (callsIn_wide.2 (HA.out _ RR.out.2.2.2.2)).mono ?_⟩; rintro e w5 ⟨b, v2, rfl, hb, hown2, hc1, hc2, hrow2, ha5⟩
  have hb2 : b + 2 < w5.heap.size := by
    have := cell_block hc2
    simpa using this
  obtain ⟨T, hT1, hT2, hT3⟩ := things_nums HN.out HL.out.1
  rw [hT2] at hrow2
  have HZ := Lib.hid (SlabI.AllR_nums Fence.wide 3 trivial rfl (by omega) b _ v2 L T hT1 HL.out.2 w5 hown2 hc1 hc2 hrow2 hb2)
  have HT := Lib.hid (And.intro hT1 hT3)
  have hq : ∀ (w : World) (b c : Value), (Go.binOp BinOp.eql 117 (Value.func (Fn.func 104) #[] #[b, c]) Value.nilFunc).run Try.prog w = Result.ok (Value.bool false) w := fun w b c => by kernel_rfl
  have r1 := ha5.row RR.out.1 id
  have r2 := ha5.row RR.out.2.1 id
  have r3 := ha5.row RR.out.2.2.1 id
  have r4 := ha5.row RR.out.2.2.2.1 id
  have hA5 := RR.out.2.2.2.2.trans ha5 (fun _ h => h.elim)
  have hown5 := (((Ch.refl (fun _ => False) w1).alloc (.cells #[.slice vo L.length vc] 58)).trans ha5 (fun _ h => h.elim)).owns HO.out.1 (fun _ _ h => h)
  have hs5 := ha5.size
  simp only [World.size_alloc] at hs5
  have R5 := Lib.hid (And.intro r1 (And.intro r2 (And.intro r3 (And.intro r4 (And.intro hA5 hown5)))))
  clear hT1 hT2 hT3 r1 r2 r3 r4 hA5 hown5 ha5 hown2 hc1 hc2 hrow2 hb hp1
  gi_wp2_with fail
  obtain ⟨w6, hw6⟩ : ∃ w6, w6 = w5.alloc (.cells #[.int .i64 0] 3) := ⟨_, rfl⟩
  rw [← hw6]
  have h56 : Ref6.Adds w5 w6 := by rw [hw6]; exact (Ch.refl _ _).alloc _
  have hs56 : w6.heap.size = w5.heap.size + 1 := by rw [hw6]; simp
  have hrn : w6.heap[w5.heap.size]? = some (.cells #[.int .i64 0] 3 (0, 0)) := by rw [hw6]; exact heap_alloc_new _ _
  have R6 := Lib.hid (And.intro (h56.row R5.out.1 id) (And.intro (h56.row R5.out.2.1 id) (And.intro (h56.row R5.out.2.2.1 id) (And.intro (h56.row R5.out.2.2.2.1 id) (And.intro (R5.out.2.2.2.2.1.trans h56 (fun _ h => h.elim)) (h56.owns R5.out.2.2.2.2.2 (fun _ _ h => h)))))))
  have HW6 := Lib.hid (And.intro h56 (And.intro hs56 hrn))
  have hs15 : w1.heap.size < w5.heap.size := by omega
  clear hq hw6 h56 hrn
  refine wpIn_rangeFunc_ownF (α := Nat × Int) rfl (by omega) (gf := 104) rfl trivial (enters_of Try.func104 (by kernel_rfl) rfl) HZ.out belowK_t (belowK_b (by omega)) (HW6.out.1.below (Nat.le_refl _) (fun _ h => h.elim)) (fun _ => rfl)
    (fun pre W => Ch (fun k => k = w5.heap.size) w6 W ∧ W.heap[w5.heap.size]? = some (.cells #[.int .i64 (pre.length : Nat)] 3 (0, 0)))
    (fun c pre W => c = .ret ∧ Ch (fun k => k = w5.heap.size ∨ k = w.heap.size + 1 + 1) w6 W ∧ ((¬ pre <+: L.zip T) ∨ W.heap[w.heap.size + 1 + 1]? = some (.cells #[.bool true] 4 (0, 0))))
    (fun s W W' row hs hg hr => ⟨hs.1.grown hg (fun k hk => .inr (hr k hk).1), (hg.block _ (row_lt hs.2) (fun e => by have := (hr _ e.symm).1; omega)).trans hs.2⟩)
    (fun c s W W' row hs hg hr => ⟨hs.1, hs.2.1.grown hg (fun k hk => .inr (hr k hk).1), hs.2.2.imp id (fun h => (hg.block _ (row_lt h) (fun e => by have := (hr _ e.symm).1; omega)).trans h)⟩)
    ⟨Ch.refl _ _, HW6.out.2.2⟩
    (fun x => { tmps := #[.agg #[.pointer (some ⟨A, 0, none⟩), .pointer (some ⟨B, 0, none⟩)], .int .i64 stop, .pointer (some ⟨w.heap.size, 0, none⟩), .pointer (some ⟨w.heap.size + 1, 0, none⟩), .pointer (some ⟨w.heap.size + 1 + 1, 0, none⟩), .pointer (some ⟨w1.heap.size, 0, none⟩),
      .func (.func 104) #[] #[.pointer (some ⟨b, 0, none⟩), .pointer (some ⟨b + 2, 0, none⟩)], .pointer (some ⟨w5.heap.size, 0, none⟩), .int .i64 (x.1 : Nat), .int .i64 x.2, undef, undef, .pointer (some ⟨w.heap.size, 1, none⟩), .pointer (some ⟨B, 0, none⟩), .slice vo L.length vc, .pointer (some ⟨w.heap.size, 0, none⟩), .pointer (some ⟨A, 0, none⟩),
      .func (.func 104) #[] #[.pointer (some ⟨b, 0, none⟩), .pointer (some ⟨b + 2, 0, none⟩)], .func (.func 104) #[] #[.pointer (some ⟨b, 0, none⟩), .pointer (some ⟨b + 2, 0, none⟩)], .bool false, .func (.func 104) #[] #[.pointer (some ⟨b, 0, none⟩), .pointer (some ⟨b + 2, 0, none⟩)],
      .int .i64 (x.1 : Nat), .int .i64 x.2, undef, undef, undef, undef, undef, undef, undef, undef, undef, undef, undef, undef, undef, undef, undef, undef, undef, undef, undef, undef, undef, undef, undef, undef, undef, undef, undef, undef, undef, undef, undef], defers := [] }) ?assign ?body ?done ?stop
  case assign =>
    intro l x W K hK
    gi_wp2
    exact hK
  case body =>
    rintro l pre ⟨xs, xt⟩ W ⟨hCh, hrow⟩ hlt
    obtain ⟨k, hk⟩ : ∃ k, k = pre.length := ⟨_, rfl⟩
    rw [← hk] at hrow hlt
    obtain ⟨n0, hn0⟩ : ∃ n0, L[k]? = some n0 := ⟨_, List.getElem?_eq_getElem hlt⟩
    obtain ⟨y, hy1, hy2, hy3⟩ := HT.out.2 k n0 hn0
    have hpair : (L.zip T)[k]? = some (n0, y) := by rw [List.getElem?_zip_eq_some]; exact ⟨hn0, hy1⟩
    have hpre : ∀ q, pre ++ [q] <+: L.zip T → q = (n0, y) := fun q h => by
      obtain ⟨r, hr⟩ := h
      have : (L.zip T)[k]? = some q := by rw [← hr, hk]; simp
      rw [hpair] at this
      cases this; rfl
    have hF2 : ∀ k, F2 k → k < w.heap.size := by obtain ⟨_, _, _, _, _, _, _, _, _, _, _, _, _, q⟩ := H2.out; exact q
    have hdoc : Ref6.At W B F2 σ := (H2.out.keep R6.out.2.2.2.2.1 (fun _ _ h => h)).keep hCh (fun j hj e => by have := hF2 j hj; omega)
    have hget := Ref6.Get_ok hdoc hlen (n0 : Int)
    rw [hy2] at hget
    have hrowW := hCh.owns R6.out.2.2.2.2.2 (fun j hj e => by
      have := (R5.out.2.2.2.2.2.lt j hj).2
      omega)
    obtain ⟨gw, _, curw, hvo, hgw, _, _, _, hqw⟩ := owns_block hrowW (by omega)
    cases hvo
    have cw : W.cell? ⟨gw, k, none⟩ = some (.int .i64 (n0 : Nat)) := row_cell hgw (take_get hqw (by simp [Ref6.ints, hn0]))
    have c7 := row_cell hrow (i := 0) rfl
    have f7 := row_free hrow 0
    have rw5 := hCh.row R6.out.2.2.2.1 (fun e => by omega)
    have c5 := row_cell rw5 (i := 0) rfl
    have rp := hCh.row R6.out.1 (fun e => by omega)
    have cp := row_cell rp (i := 1) rfl
    have rs := hCh.row R6.out.2.1 (fun e => by omega)
    have cs := row_cell rs (i := 0) rfl
    have rb := hCh.row R6.out.2.2.1 (fun e => by omega)
    have cb := row_cell rb (i := 0) rfl
    have fb := row_free rb 0
    have hcast : ((((n0 : Nat) : Int))) = (n0 : Int) := rfl
    have PW := Lib.hid (And.intro hCh (And.intro hrow (And.intro rb hpre)))
    have GT := Lib.hid hget
    have HK := Lib.hid hk
    obtain ⟨m, hm⟩ : ∃ m, m = L.length := ⟨_, rfl⟩
    rw [← hm] at hlt c5
    have hkl : (k : Int) < (m : Int) := by omega
    have hkl2 : ¬ (m : Int) ≤ (k : Int) := by omega
    have hk65 : (k : Int) ≤ 65536 := by have := HL.out.2; omega
    have HM := Lib.hid hm
    clear hCh hrow hn0 hy1 hy2 hy3 hpair hpre hF2 hdoc hget hrowW hgw hqw rw5 rp rs rb hk hm
    by_cases hx : xs = n0
    · subst hx
      gi_wp2_with fail
      refine ⟨trivial, (callsIn_wide.2 GT.out).mono ?_⟩; rintro e w9 ⟨rfl, rfl⟩
      by_cases hy : xt = y
      · subst hy
        by_cases hs : ((k : Int) + 1) = stop
        · gi_wp2_with fail
          refine ⟨(KeepsOthers.setCell _ _ _).trans (KeepsOthers.setCell _ _ _), rfl, ((PW.out.1.mono (fun j _ hj => .inl hj)).setCell (p := ⟨w5.heap.size, 0, none⟩) (.inl (.inl rfl)) _).setCell (p := ⟨w.heap.size + 1 + 1, 0, none⟩) (.inl (.inr rfl)) _, .inr ?_⟩
          exact row_set_same (row_set (p := ⟨w5.heap.size, 0, none⟩) PW.out.2.2.1 (by simp; omega) _) 0 (.bool true)
        · gi_wp2_with fail
          refine ⟨KeepsOthers.setCell _ _ _, (Below.refl w5.heap.size W).setCell (p := ⟨w5.heap.size, 0, none⟩) (Nat.le_refl _) _, PW.out.1.setCell (p := ⟨w5.heap.size, 0, none⟩) (.inl rfl) _, ?_⟩
          have := row_set_same PW.out.2.1 0 (.int .i64 ((k : Int) + 1))
          rw [List.length_append, List.length_singleton, ← HK.out, show (((k + 1 : Nat)) : Int) = (k : Int) + 1 by omega]
          exact this
      · gi_wp2_with fail
        refine ⟨KeepsOthers.setCell _ _ _, rfl, (PW.out.1.mono (fun j _ hj => .inl hj)).setCell (p := ⟨w.heap.size + 1 + 1, 0, none⟩) (.inl (.inr rfl)) _, .inl fun h => hy ?_⟩
        have := PW.out.2.2.2 _ h
        cases this
        rfl
    · have hxne : ¬ ((xs : Int) = (n0 : Int)) := by omega
      gi_wp2_with fail
      refine ⟨KeepsOthers.setCell _ _ _, rfl, (PW.out.1.mono (fun j _ hj => .inl hj)).setCell (p := ⟨w.heap.size + 1 + 1, 0, none⟩) (.inl (.inr rfl)) _, .inl fun h => hx ?_⟩
      have := PW.out.2.2.2 _ h
      cases this
      rfl
  case done =>
    rintro D ys W hD rfl ⟨hCh, hrow⟩ hK
    have hzl : (L.zip T).length = L.length := by simp [HT.out.1]
    rw [hzl] at hrow
    have c7 := row_cell hrow (i := 0) rfl
    have rw5 := hCh.row R6.out.2.2.2.1 (fun e => by omega)
    have c5 := row_cell rw5 (i := 0) rfl
    have rb := hCh.row R6.out.2.2.1 (fun e => by omega)
    have cb := row_cell rb (i := 0) rfl
    have fb := row_free rb 0
    have hbel : Below w.heap.size w W := ((R6.out.2.2.2.2.1).mono (G := fun k => w.heap.size ≤ k) (fun _ _ h => h.elim)).trans (hCh.mono (G := fun k => w.heap.size ≤ k) (fun k _ hk => by omega)) (fun k hk => .inl hk) |>.below (Nat.le_refl _) (fun k hk => hk)
    have HB := Lib.hid (And.intro hbel (And.intro rb (And.intro hK hD)))
    clear hCh hrow rw5 rb hK hbel hD
    gi_wp2
    have hs06 : w.heap.size + 1 + 1 < w6.heap.size := by omega
    have hK' : (W.setCell ⟨w.heap.size + 1 + 1, 0, none⟩ (.bool true)).heap[D]? = some (.deferred (some [])) := (heap_setCell_other W ⟨w.heap.size + 1 + 1, 0, none⟩ D (.bool true) (by have := HB.out.2.2.2; simp; omega)).trans HB.out.2.2.1
    have hc0 : (W.setCell ⟨w.heap.size + 1 + 1, 0, none⟩ (.bool true)).cell? ⟨w.heap.size + 1 + 1, 0, none⟩ = some (.bool true) := row_cell (row_set_same HB.out.2.1 0 (.bool true)) rfl
    have hc5 := cell_kept hc0 (grownBy_putObj' _ D (.deferred none)) (fun r e => by cases e; exact ⟨_, hK', rfl⟩)
    refine ⟨by simp, .inl ⟨_, _, rfl, run_takeDeferred hK', ?_⟩⟩
    refine ⟨.bool true, ?_, rfl, (HB.out.1.setCell (p := ⟨w.heap.size + 1 + 1, 0, none⟩) (by simp; omega) _).trans (belowK_b (w := w6) (by omega) _ D _ _ HB.out.2.2.2 hK' rfl rfl)⟩
    simp [results, Try.f26, go_sem, hc5]
  case stop =>
    rintro D c pre W hD hpre ⟨rfl, hCh, hor⟩ hK
    have rb := hor.resolve_left (fun h => h hpre)
    have hbel : Below w.heap.size w W := ((R6.out.2.2.2.2.1).mono (G := fun k => w.heap.size ≤ k) (fun _ _ h => h.elim)).trans (hCh.mono (G := fun k => w.heap.size ≤ k) (fun k _ hk => by omega)) (fun k hk => .inl hk) |>.below (Nat.le_refl _) (fun k hk => hk)
    have HB := Lib.hid (And.intro hbel (And.intro rb (And.intro hK hD)))
    clear hCh rb hK hbel hor hpre hD
    gi_wp2
    have hc0 := row_cell HB.out.2.1 (i := 0) rfl
    have hc5 := cell_kept hc0 (grownBy_putObj' _ D (.deferred none)) (fun r e => by cases e; exact ⟨_, HB.out.2.2.1, rfl⟩)
    refine ⟨by simp, .inl ⟨_, _, rfl, run_takeDeferred HB.out.2.2.1, ?_⟩⟩
    refine ⟨.bool true, ?_, rfl, HB.out.1.trans (belowK_b (w := w6) (by omega) _ D _ _ HB.out.2.2.2 HB.out.2.2.1 rfl rfl)⟩
    simp [results, Try.f26, go_sem, hc5]

end Go.Proofs.Ytdgdpbmaalcedaa
