/- The document's slab: Take, New, Slots, Len. -/
import Derived.Test.YtdgdpbmaalcedaaRef6C
namespace Go.Proofs.Ytdgdpbmaalcedaa.Ref6
open Go Go.RowKit
set_option maxHeartbeats 800000
set_option linter.unusedVariables false

/-- A free slot is taken again. -/
theorem Open.fill {w : World} {a : Nat} {F : Nat → Prop} {room n nf : Nat} {vF : Value} {ts : List Value} {l : List (Value × Nat)} {fs : List Value} {gT gC cT cC : Nat}
    (h : Open w a F room n n nf (.slice (some ⟨gT, 0, none⟩) n cT) (.slice (some ⟨gC, 0, none⟩) n cC) vF ts (cnts l) fs) (ht : Told l ts) {m : Nat} (hm : m < n) (x : Value) :
    Open ((w.setCell ⟨gT, m, none⟩ x).setCell ⟨gC, m, none⟩ (.int .i64 1)) a F room n n nf (.slice (some ⟨gT, 0, none⟩) n cT) (.slice (some ⟨gC, 0, none⟩) n cC) vF (ts.set m x) (cnts (l.set m (x, 1))) fs ∧ Told (l.set m (x, 1)) (ts.set m x) ∧
      Ch F w ((w.setCell ⟨gT, m, none⟩ x).setCell ⟨gC, m, none⟩ (.int .i64 1)) := by
  have h1 := h.setT rfl hm x
  have h2 := h1.1.setC rfl hm (.int .i64 1)
  have e : (cnts l).set m (.int .i64 1) = cnts (l.set m (x, 1)) := cnts_set l m (x, 1)
  rw [e] at h2
  exact ⟨h2.1, told_put ht (by rw [h.len.1]; exact hm) (x, 1), h1.2.trans h2.2 (fun k hk => .inl hk)⟩

set_option maxRecDepth 100000 in
theorem Take_reuse {w : World} {a : Nat} {F : Nat → Prop} {σ : SlabSt} (h : At w a F σ) (hl : σ.slots.length ≤ 65536) (x : Int) {fr : List Nat} {k : Nat} (hf : σ.free = fr ++ [k + 1]) (hk : k < σ.slots.length) (hfl : σ.free.length ≤ 65536) :
    Calls Try.prog 62 #[.pointer (some ⟨a, 0, none⟩), .int .i64 x] w fun e w' => e = .returned (.tuple #[.int .i64 (k + 1), .int .i64 0]) ∧ Moved w w' a F { σ with slots := σ.slots.set k (.int .i64 x, 1), free := fr } := by
  obtain ⟨vT, vC, vF, ts, ho, ht⟩ := h.open
  have hfn : σ.free.length = fr.length + 1 := by rw [hf]; simp
  have hfs : frs σ.free = frs fr ++ [.int .i64 ((k : Int) + 1)] := by rw [hf]; simp [frs]
  rw [hfn, hfs] at ho
  obtain ⟨d0, d1, d2, d3, d4, dz, dl⟩ := ho.cells
  obtain ⟨gF, cF, rfl, e1, e2, e3⟩ := own_cell ho.free (m := fr.length) (by omega) (x := .int .i64 ((k : Int) + 1)) (by rw [List.getElem?_append_right (by simp [frs])]; simp [frs])
  have hw2 : Ch (fun _ => False) w w.drew.drew := (Ch.refl _ _).drew.drew
  have hp := (ho.adds hw2).pop (nf' := fr.length) rfl rfl rfl
  have hll := ho.len
  obtain ⟨tk, htk⟩ : ∃ tk, ts[k]? = some tk := ⟨_, List.getElem?_eq_getElem (by omega)⟩
  obtain ⟨gT, cT, rfl, t1, t2, t3⟩ := own_cell ho.things hk htk
  obtain ⟨ck, hck⟩ : ∃ ck, (cnts σ.slots)[k]? = some ck := ⟨_, List.getElem?_eq_getElem (by omega)⟩
  obtain ⟨gC, cC, rfl, u1, u2, u3⟩ := own_cell ho.counts hk hck
  have hfin := hp.1.fill ht hk (.int .i64 x)
  have hTa : a ≠ gT := fun e => (ho.tB gT rfl).2 e.symm
  have hCa : a ≠ gC := fun e => (ho.cB gC rfl).2.1 e.symm
  have hFa : a ≠ gF := fun e => (ho.fB gF rfl).2.1 e.symm
  have hCT : gC ≠ gT := fun e => (ho.cB gC rfl).2.2 (by rw [e]; rfl)
  have hwk : IntKind.i64.wrap (k : Int) = k := wrap_small (by omega)
  have hwf : IntKind.i64.wrap (fr.length : Int) = fr.length := wrap_small (by omega)
  have hfi : (fr.length : Int) < (fr.length : Int) + 1 := by omega
  have hfi2 : fr.length < fr.length + 1 := by omega
  have hkb : (k : Int) ≤ 65535 := by omega
  have hki : (k : Int) < (σ.slots.length : Int) := by omega
  have hfb : (fr.length : Int) ≤ 65536 := by omega
  have hcf : fr.length + 1 ≤ cF := by
    obtain ⟨_, _, _, he, _, hcap, _⟩ := owns_block ho.free (by omega)
    cases he; exact hcap
  have hfc : fr.length ≤ cF := by omega
  have HF := Lib.hid (And.intro hp.2 (And.intro hfin hw2))
  clear h hf hfn hfs ho hp hll htk hck hfin ht hw2
  go_enter Try.func62, Try.ntmps62
  go_wp2_with (go_at_call 101; refine (none_no d0).mono ?_; rintro e w1 ⟨rfl, rfl⟩)
  go_wp2
  refine wp_region_plan (fun w0 => w0 = (w).drew) 12 [(0, false), (1, false), (2, false), (3, false), (4, false), (5, false), (6, false), (7, false), (8, false), (9, false), (10, false), (11, false)] (by kernel_rfl) (by kernel_rfl) rfl ?_
  iterate 12 refine plan_look rfl rfl (fun w0 hS => (by subst hS; go_simp; try rfl)) ?_
  refine plan_end ?_
  simp only [List.drop_succ_cons, List.drop_zero, Act.put, List.setIfInBounds_toArray, List.set_cons_succ, List.set_cons_zero]
  go_wp2
  refine NoPanic.normal ?_
  go_wp2
  refine wp_region_plan (fun w0 => w0 = (w.drew).drew) 12 [(0, false), (1, false), (2, false), (3, false), (4, false), (5, false), (6, false), (7, false), (8, false), (9, false), (10, false), (11, false)] (by kernel_rfl) (by kernel_rfl) rfl ?_
  iterate 12 refine plan_look rfl rfl (fun w0 hS => (by subst hS; go_simp; try rfl)) ?_
  refine plan_end ?_
  simp only [List.drop_succ_cons, List.drop_zero, Act.put, List.setIfInBounds_toArray, List.set_cons_succ, List.set_cons_zero]
  go_wp2
  refine NoPanic.normal ?_
  go_wp2
  go_ret2
  refine ⟨rfl, F, Open.shut (ts := ts.set k (.int .i64 x)) (vT := .slice (some ⟨gT, 0, none⟩) σ.slots.length cT) (vC := .slice (some ⟨gC, 0, none⟩) σ.slots.length cC) (vF := .slice (some ⟨gF, 0, none⟩) fr.length cF) ?_ HF.out.2.1.2.1, (HF.out.2.2.mono (G := F) (fun _ _ h => h.elim)).trans (HF.out.1.trans HF.out.2.1.2.2 (fun k hk => .inl hk)) (fun k hk => .inl hk), fun k hk => .inl hk⟩
  simp only [List.length_set]
  exact HF.out.2.1.1

set_option maxRecDepth 100000 in
theorem Take_full {w : World} {a : Nat} {F : Nat → Prop} {σ : SlabSt} (h : At w a F σ) (hl : σ.slots.length ≤ 65536) (x : Int) (hf : σ.free = []) (hr : σ.slots.length = σ.room) :
    Calls Try.prog 62 #[.pointer (some ⟨a, 0, none⟩), .int .i64 x] w fun e w' => e = .returned (.tuple #[.int .i64 0, .int .i64 9]) ∧ Moved w w' a F σ := by
  have hA := h
  obtain ⟨vT, vC, vF, ts, ho, ht⟩ := h.open
  rw [hf] at ho
  obtain ⟨d0, d1, d2, d3, d4, dz, dl⟩ := ho.cells
  obtain ⟨fo, fc, rfl⟩ := owns_form ho.free
  obtain ⟨co, cc, rfl⟩ := owns_form ho.counts
  rw [hr] at d3
  have HA := Lib.hid hA
  clear h hA hf ho ht hr
  simp only [List.length_nil] at d4
  go_enter Try.func62, Try.ntmps62
  go_wp2_with (go_at_call 101; refine (none_no d0).mono ?_; rintro e w1 ⟨rfl, rfl⟩)
  refine wp_region_plan (fun w0 => w0 = (w).drew) 10 [(0, false), (1, false), (2, false), (3, false), (4, false), (5, false), (6, false), (7, false), (8, false), (9, false)] (by kernel_rfl) (by kernel_rfl) rfl ?_
  iterate 10 refine plan_look rfl rfl (fun w0 hS => (by subst hS; go_simp; try rfl)) ?_
  refine plan_end ?_
  simp only [List.drop_succ_cons, List.drop_zero, Act.put, List.setIfInBounds_toArray, List.set_cons_succ, List.set_cons_zero]
  refine wpList_nil ?_
  refine NoPanic.normal ?_
  go_wp2
  go_ret2
  exact ⟨rfl, F, HA.out.keep ((Ch.refl (fun _ => False) w).drew) (fun _ _ h => h), (Ch.refl _ _).drew, fun k hk => .inl hk⟩

set_option maxRecDepth 100000 in
theorem Take_new {w : World} {a : Nat} {F : Nat → Prop} {σ : SlabSt} (h : At w a F σ) (hl : σ.slots.length ≤ 65535) (x : Int) (hf : σ.free = []) (hr : σ.slots.length < σ.room) :
    Calls Try.prog 62 #[.pointer (some ⟨a, 0, none⟩), .int .i64 x] w fun e w' => e = .returned (.tuple #[.int .i64 (σ.slots.length + 1), .int .i64 0]) ∧ Moved w w' a F { σ with slots := σ.slots ++ [(.int .i64 x, 1)] } := by
  obtain ⟨vT, vC, vF, ts, ho, ht⟩ := h.open
  have hfr : frs σ.free = [] := by rw [hf]; rfl
  have hfn : σ.free.length = 0 := by rw [hf]; rfl
  obtain ⟨d0, d1, d2, d3, d4, dz, dl⟩ := ho.cells
  obtain ⟨fo, fc, rfl⟩ := owns_form ho.free
  obtain ⟨co, cc, rfl⟩ := owns_form ho.counts
  obtain ⟨tO, tc, rfl⟩ := owns_form ho.things
  obtain ⟨i0, hi, hz0, hz1, hz2⟩ := SlabI.int_info
  obtain ⟨n, hn⟩ : ∃ n, n = σ.slots.length := ⟨_, rfl⟩
  have hll := ho.len
  have htold := told_snoc ht hll.1 (.int .i64 x, 1)
  have hcs : cnts σ.slots ++ [.int .i64 1] = cnts (σ.slots ++ [(.int .i64 x, 1)]) := by simp [cnts]
  have hln : (σ.slots ++ [((.int .i64 x : Value), 1)]).length = n + 1 := by rw [hn]; simp
  rw [← hn] at ho d2 d3 hl hr
  rw [hfn] at ho d4
  have HO := Lib.hid (ho.adds ((Ch.refl (fun _ => False) w).drew))
  have HI := Lib.hid (And.intro hi (And.intro hz0 (And.intro hz1 hz2)))
  have HT := Lib.hid (And.intro htold (And.intro hcs (And.intro hln (And.intro hn hfn))))
  have hrr : (n : Int) < (σ.room : Int) := by omega
  have hnb : (n : Int) ≤ 65535 := by omega
  rw [← hn]
  clear h hf ho ht hll hfr htold hcs hln hi hz0 hz1 hz2 hr hn hfn
  go_enter Try.func62, Try.ntmps62
  go_wp2_with (go_at_call 101; refine (none_no d0).mono ?_; rintro e w1 ⟨rfl, rfl⟩)
  refine wp_region_plan (fun w0 => w0 = (w).drew) 10 [(0, false), (1, false), (2, false), (3, false), (4, false), (5, false), (6, false), (7, false), (8, false), (9, false)] (by kernel_rfl) (by kernel_rfl) rfl ?_
  iterate 10 refine plan_look rfl rfl (fun w0 hS => (by subst hS; go_simp; try rfl)) ?_
  refine plan_end ?_
  simp only [List.drop_succ_cons, List.drop_zero, Act.put, List.setIfInBounds_toArray, List.set_cons_succ, List.set_cons_zero]
  refine wpList_nil ?_
  refine NoPanic.normal ?_
  go_wp2_with (first
    | (at_builtin; refine wpList_append_own_at _ rfl _ _ 58 rfl 0 3 i0 (.int .i64 0) 1 8 Try.underlying58 HI.out.1 HI.out.2.1 HI.out.2.2.1 HI.out.2.2.2 rfl (by decide) (.slice tO n tc) _ _ rfl (HO.out.things.alloc _) ⟨w.heap.size, 0, none⟩ 1 1 [.int .i64 x] rfl rfl (row_news (cs := #[.int .i64 x]) (t := 3) (fr := (0, 0)) (heap_alloc_at _ _ _ (by simp))) (by simp [Value.oneCell']) (by unfold maxLen; omega) (by omega) (by omega) ?_; intro v' w2 hown hgrow hnil hloc; obtain ⟨ao', cap', rfl⟩ := owns_form hown; have CH : Ch (fun k => (Value.slice tO n tc).ownBlock = some k) w.drew w2 := ((Ch.refl (fun k => (Value.slice tO n tc).ownBlock = some k) w.drew).alloc _).grown hgrow (fun k hk => .inl hk); have hr2 := CH.row HO.out.row (fun e => (HO.out.tB a e).2 rfl); have k2 := row_cell hr2 (i := 2) rfl; have f2 := row_free hr2 2; have HN := Lib.hid (HO.out.newT hown CH (fun k hk => by rcases hloc with hx | hx; exact .inl (by rw [← hx]; exact hk); rw [hx] at hk; simp at hk; right; simp; omega)); have hc3 := HN.out.1.cells; have k3 := hc3.2.2.2.1; have hz3 := hc3.2.2.2.2.2.1; have hl3 := hc3.2.2.2.2.2.2; have hs3 := CH.size; clear hown hgrow hnil hloc CH hr2 hc3)
    | (at_builtin; refine wpList_append_own_at _ rfl _ _ 58 rfl 0 3 i0 (.int .i64 0) 1 8 Try.underlying58 HI.out.1 HI.out.2.1 HI.out.2.2.1 HI.out.2.2.2 rfl (by decide) (.slice co n cc) _ _ rfl (HN.out.1.counts.alloc _) ⟨w2.heap.size, 0, none⟩ 1 1 [.int .i64 1] rfl rfl (row_news (cs := #[.int .i64 1]) (t := 3) (fr := (0, 0)) (heap_alloc_at _ _ _ (by simp))) (by simp [Value.oneCell']) (by unfold maxLen; omega) (by omega) (by omega) ?_; intro v' w4 hown hgrow hnil hloc; obtain ⟨co', cc', rfl⟩ := owns_form hown; have CH : Ch (fun k => (Value.slice co n cc).ownBlock = some k) (w2.setCell ⟨a, 2, none⟩ (.slice ao' (n + 1) cap')) w4 := ((Ch.refl (fun k => (Value.slice co n cc).ownBlock = some k) (w2.setCell ⟨a, 2, none⟩ (.slice ao' (n + 1) cap'))).alloc _).grown hgrow (fun k hk => .inl hk); have hr2 := CH.row HN.out.1.row (fun e => (HN.out.1.cB a e).2.1 rfl); have k4 := row_cell hr2 (i := 3) rfl; have f4 := row_free hr2 3; have HM := Lib.hid (HN.out.1.newC hown CH (fun k hk => by rcases hloc with hx | hx; exact .inl (by rw [← hx]; exact hk); rw [hx] at hk; simp at hk; right; simp; omega)); clear hown hgrow hnil hloc CH hr2))
  go_ret2
  have hM := HM.out.1
  refine ⟨rfl, (fun k => (F k ∨ (w.drew.heap.size ≤ k ∧ k < w2.heap.size)) ∨ ((w2.setCell ⟨a, 2, none⟩ (.slice ao' (n + 1) cap')).heap.size ≤ k ∧ k < w4.heap.size)), Open.shut (vT := .slice ao' (n + 1) cap') (vC := .slice co' (n + 1) cc') (vF := .slice fo 0 fc) (ts := _) ?_ HT.out.1, ((Ch.refl (fun _ => False) w).drew.mono (G := F) (fun _ _ h => h.elim)).trans (HN.out.2.trans HM.out.2 (fun k hk => hk.imp id (fun h => h.1))) (fun k hk => .inl hk), fun k hk => ?_⟩
  · rw [HT.out.2.1] at hM
    rw [HT.out.2.2.1, HT.out.2.2.2.2]
    exact hM
  · rcases hk with (hk | hk) | hk
    · exact .inl hk
    · exact .inr hk.1
    · right
      have h1 := hk.1
      simp at h1
      have : w.heap.size ≤ w2.heap.size := hs3
      omega

end Go.Proofs.Ytdgdpbmaalcedaa.Ref6
