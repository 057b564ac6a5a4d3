/- Regions whose order is drawn, once more: a plan whose condition on worlds need hold only until one operation 'k' has been done (a swap: both loads come ahead of the first store). -/
import Derived.Test.YtmeglndnkdgkoaaGreatLawsA
namespace Go.Proofs.YtmeglndnkdgkoaaGreat
open Go Go.RowKit

section
variable {P : Program} {ops : Array Oper} {Q : Exit → Act → World → Prop} {md : Region.Mode} {S : World → Prop} {k : Nat}
/-- Until k is done: S. -/
def Till (k : Nat) (S : World → Prop) (listed : Array Bool) (w : World) : Prop := listed.getD k false = true ∨ S w
theorem Till.set {i : Nat} (hik : i ≠ k) {listed : Array Bool} {w : World} : Till k S (listed.setIfInBounds i true) w ↔ Till k S listed w := by
  have : (listed.setIfInBounds i true).getD k false = listed.getD k false := by
    simp only [Array.getD_eq_getD_getElem?]
    rw [Array.getElem?_setIfInBounds_ne hik]
  unfold Till
  rw [this]
def wpHeadK (P : Program) (md : Region.Mode) (ops : Array Oper) (Q : Exit → Act → World → Prop) (T : Array Bool → World → Prop) (n : Nat) (L : Array Bool → Act → World → Prop) : Nat → Array Bool → Act → World → Prop
  | 0, listed, a, w => L listed a w
  | f + 1, listed, a, w =>
    Region.ready md ops listed ≠ [] ∧ ∀ i ∈ Region.ready md ops listed, i < n ∧ wpOp P ops Q i (fun a' w' => T (listed.setIfInBounds i true) w' ∧ wpHeadK P md ops Q T n L f (listed.setIfInBounds i true) a' w') a w
theorem wpAny_of_wpHeadK {T : Array Bool → World → Prop} {n g : Nat} {L : Array Bool → Act → World → Prop} (hL : ∀ listed a w, L listed a w → wpAny P md ops Q g listed a w) :
    ∀ (f : Nat) (listed : Array Bool) (a : Act) (w : World), wpHeadK P md ops Q T n L f listed a w → wpAny P md ops Q (f + g) listed a w
  | 0, listed, a, w, h => by rw [Nat.zero_add]; exact hL _ _ _ h
  | f + 1, listed, a, w, h => by
    rw [show f + 1 + g = (f + g) + 1 by omega]
    exact ⟨fun h0 => absurd h0 h.1, fun i hi => wpOp_mono (fun a' w' h' => wpAny_of_wpHeadK hL f _ a' w' h'.2) (h.2 i hi).2⟩
theorem wpHeadK_first {n i : Nat} {oi : Oper} {v : Value} {S' : World → Prop} {L : Array Bool → Act → World → Prop} (hi : ops[i]? = some oi) (hik : i ≠ k) (hsel : ∀ (j : Nat) (o : Oper) cs b, ops[j]? = some o → o.op ≠ .select cs b)
    (hQ : ∀ c a w, Q (.panic c) (a.put oi.dst v) w → Q (.panic c) a w) (ht : tailB md ops n = true) (hin : i < n)
    (hdone : ∀ listed a w, L listed a w → ∀ j ∈ Region.ready md ops listed, n ≤ j)
    (hS' : ∀ listed w, HeadInv md ops n listed → listed.getD i true = false → Till k S listed w → S' w) :
    ∀ (f : Nat) (listed : Array Bool) (a : Act) (w : World), HeadInv md ops n listed →
      (∀ j oj, ops[j]? = some oj → j ≠ i → listed.getD j true = false → (∀ e ∈ oj.after, Region.binds md e = true → e.on ≠ i) → oi.apart ops oj = true) →
      i ∈ Region.ready md ops listed → YieldsIf P ops S' oi v a → Till k S listed w →
      wpHeadK P md ops Q (Till k S) n L f (listed.setIfInBounds i true) (a.put oi.dst v) w → wpHeadK P md ops Q (Till k S) n L (f + 1) listed a w := by
  intro f
  induction f with
  | zero =>
    intro listed a w inv _ hr hy hS H
    have hun := (mem_ready.1 hr).1
    refine ⟨fun h => (by rw [h] at hr; cases hr), fun j hj => ?_⟩
    have hjn := tail_late ht inv hin hun j hj
    refine ⟨hjn, ?_⟩
    by_cases hji : j = i
    · subst hji; exact hy.wpOp hi (hS' listed w inv hun hS) ⟨(Till.set hik).2 hS, H⟩
    · have := hdone _ _ _ H j (ready_mono hj hji)
      omega
  | succ f ih =>
    intro listed a w inv hfree hr hy hS H
    have hun := (mem_ready.1 hr).1
    refine ⟨fun h => (by rw [h] at hr; cases hr), fun j hj => ?_⟩
    have hjn := tail_late ht inv hin hun j hj
    refine ⟨hjn, ?_⟩
    by_cases hji : j = i
    · subst hji; exact hy.wpOp hi (hS' listed w inv hun hS) ⟨(Till.set hik).2 hS, H⟩
    · have h1 := (H.2 j (ready_mono hj hji)).2
      obtain ⟨hjun, oj, hoj, hall⟩ := mem_ready.1 hj
      have hnot : ∀ e ∈ oj.after, Region.binds md e = true → e.on ≠ i := fun e he hb heq => by
        have h1 := hall e he hb
        rw [heq, getD_both hun] at h1
        cases h1
      have h2 := wpOp_putIf hoj (hfree j oj hoj hji hjun hnot) (fun cs b => hsel i oi cs b hi) (fun cs b => hsel j oj cs b hoj) hQ hy h1
      have hfree' : ∀ k ok, ops[k]? = some ok → k ≠ i → (listed.setIfInBounds j true).getD k true = false →
          (∀ e ∈ ok.after, Region.binds md e = true → e.on ≠ i) → oi.apart ops ok = true := fun k ok hk hki hun hno => by
        refine hfree k ok hk hki ?_ hno
        by_cases hjk : j = k
        · subst hjk; exact hjun
        · rw [getD_set_ne true hjk] at hun; exact hun
      refine wpOp_mono (fun a' w' h3 => ?_) h2
      have hT : Till k S (listed.setIfInBounds j true) w' := by
        have := h3.2.1
        rw [Array.setIfInBounds_comm _ _ (Ne.symm hji)] at this
        exact (Till.set hik).1 this
      refine ⟨hT, ih (listed.setIfInBounds j true) a' w' (inv.set hj hjn) hfree' (ready_mono hr (Ne.symm hji)) h3.1 hT ?_⟩
      rw [Array.setIfInBounds_comm _ _ hji]
      exact h3.2.2

/-- 0: only looks, at nothing that changes; 1: looks, ahead of k; 2: may do anything. -/
def wpPlanK (P : Program) (l : List Oper) (Q : Exit → Act → World → Prop) (k : Nat) (S : World → Prop) (n : Nat) : List (Nat × Nat) → Bool → Act → World → Prop
  | [], _, a, w => wpList P l.toArray Q (l.drop n) a w
  | (i, 0) :: r, past, a, w => ∃ o v, l[i]? = some o ∧ YieldsIf P l.toArray (fun _ => True) o v a ∧ wpPlanK P l Q k S n r past (a.put o.dst v) w
  | (i, 1) :: r, past, a, w => ∃ o v, l[i]? = some o ∧ YieldsIf P l.toArray S o v a ∧ wpPlanK P l Q k S n r past (a.put o.dst v) w
  | (i, _ + 2) :: r, past, a, w => wpOp P l.toArray Q i (fun a' w' => ((past || i == k) = true ∨ S w') ∧ wpPlanK P l Q k S n r (past || i == k) a' w') a w
/-- k waits for i. -/
def waitsB (md : Region.Mode) (ops : Array Oper) (k i : Nat) : Bool := match ops[k]? with
  | none => false
  | some o => o.after.any (fun e => Region.binds md e && (e.on == i))
def planKB (md : Region.Mode) (ops : Array Oper) (k n : Nat) : List (Nat × Nat) → Array Bool → Bool
  | [], listed => Region.seqB md ops (ops.size - n) n listed
  | (i, 0) :: r, listed => decide (i < n) && (i != k) && (Region.ready md ops listed).contains i && Region.free md ops listed i && planKB md ops k n r (listed.setIfInBounds i true)
  | (i, 1) :: r, listed => decide (i < n) && (i != k) && waitsB md ops k i && (Region.ready md ops listed).contains i && Region.free md ops listed i && planKB md ops k n r (listed.setIfInBounds i true)
  | (i, _ + 2) :: r, listed => decide (i < n) && decide (Region.ready md ops listed = [i]) && planKB md ops k n r (listed.setIfInBounds i true)
def regionKB (md : Region.Mode) (ops : Array Oper) (k n : Nat) (p : List (Nat × Nat)) : Bool :=
  Region.noSelect ops && decide (p.length = n) && decide (n ≤ ops.size) && tailB md ops n && planKB md ops k n p (Array.replicate ops.size false)
theorem getD_set_self {listed : Array Bool} {i : Nat} (h : i < listed.size) : (listed.setIfInBounds i true).getD i false = true := by
  simp [Array.getD_eq_getD_getElem?, h]
theorem wpHeadK_of_plan {l : List Oper} {n : Nat} (hsel : Region.noSelect l.toArray = true) (ht : tailB md l.toArray n = true) (hQ : ∀ c a a' w, Q (.panic c) a' w → Q (.panic c) a w) :
    ∀ (p : List (Nat × Nat)) (past : Bool) (listed : Array Bool) (a : Act) (w : World), planKB md l.toArray k n p listed = true → HeadInv md l.toArray n listed → (past = true → listed.getD k false = true) → Till k S listed w → wpPlanK P l Q k S n p past a w →
    wpHeadK P md l.toArray Q (Till k S) n (fun listed a w => Region.seqB md l.toArray (l.toArray.size - n) n listed = true ∧ wpList P l.toArray Q (l.drop n) a w) p.length listed a w
  | [], past, listed, a, w, hB, _, _, _, h => ⟨hB, h⟩
  | (i, 0) :: r, past, listed, a, w, hB, inv, hp, hS, h => by
    simp only [planKB, Bool.and_eq_true, decide_eq_true_eq, bne_iff_ne] at hB
    obtain ⟨⟨⟨⟨hin, hik⟩, hr⟩, hf⟩, hB'⟩ := hB
    obtain ⟨o, v, ho, hy, h'⟩ := h
    have hr' : i ∈ Region.ready md l.toArray listed := by simpa using hr
    have ho' : l.toArray[i]? = some o := by simpa using ho
    refine wpHeadK_first ho' hik (Region.noSelect_spec hsel) (fun c a w => hQ c _ _ w) ht hin (fun listed a w hL => seqB_ready hL.1) (fun _ _ _ _ _ => trivial) r.length listed a w inv (Region.free_spec ho' hf) hr' hy hS ?_
    refine wpHeadK_of_plan hsel ht hQ r past _ _ w hB' (inv.set hr' hin) (fun h => ?_) ((Till.set hik).2 hS) h'
    have := hp h
    simp only [Array.getD_eq_getD_getElem?] at this ⊢
    rw [Array.getElem?_setIfInBounds_ne hik]
    exact this
  | (i, 1) :: r, past, listed, a, w, hB, inv, hp, hS, h => by
    simp only [planKB, Bool.and_eq_true, decide_eq_true_eq, bne_iff_ne] at hB
    obtain ⟨⟨⟨⟨⟨hin, hik⟩, hwt⟩, hr⟩, hf⟩, hB'⟩ := hB
    obtain ⟨o, v, ho, hy, h'⟩ := h
    have hr' : i ∈ Region.ready md l.toArray listed := by simpa using hr
    have ho' : l.toArray[i]? = some o := by simpa using ho
    refine wpHeadK_first ho' hik (Region.noSelect_spec hsel) (fun c a w => hQ c _ _ w) ht hin (fun listed a w hL => seqB_ready hL.1) (fun listed w inv hun hT => ?_) r.length listed a w inv (Region.free_spec ho' hf) hr' hy hS ?_
    · rcases hT with hk | hS
      · exfalso
        unfold waitsB at hwt
        cases hok : l.toArray[k]? with
        | none => rw [hok] at hwt; cases hwt
        | some ok =>
          rw [hok] at hwt
          simp only [Array.any_eq_true, Bool.and_eq_true, beq_iff_eq] at hwt
          obtain ⟨x, hx, hb, he⟩ := hwt
          have := inv.closed k ok hok hk _ (Array.getElem_mem hx) hb
          rw [he, getD_both hun] at this
          cases this
      · exact hS
    · refine wpHeadK_of_plan hsel ht hQ r past _ _ w hB' (inv.set hr' hin) (fun h => ?_) ((Till.set hik).2 hS) h'
      have := hp h
      simp only [Array.getD_eq_getD_getElem?] at this ⊢
      rw [Array.getElem?_setIfInBounds_ne hik]
      exact this
  | (i, _ + 2) :: r, past, listed, a, w, hB, inv, hp, hS, h => by
    simp only [planKB, Bool.and_eq_true, decide_eq_true_eq] at hB
    obtain ⟨⟨hin, hr⟩, hB'⟩ := hB
    refine ⟨by rw [hr]; simp, fun j hj => ?_⟩
    have hji : j = i := by rw [hr] at hj; simpa using hj
    subst hji
    have hpast : (past || j == k) = true → (listed.setIfInBounds j true).getD k false = true := fun h => by
      by_cases hjk : j = k
      · subst hjk
        refine getD_set_self ?_
        obtain ⟨_, oj, hoj, _⟩ := mem_ready.1 hj
        rw [inv.size]
        exact (Array.getElem?_eq_some_iff.1 hoj).1
      · have : past = true := by simpa [hjk] using h
        have := hp this
        simp only [Array.getD_eq_getD_getElem?] at this ⊢
        rw [Array.getElem?_setIfInBounds_ne hjk]
        exact this
    refine ⟨hin, wpOp_mono (fun a' w' h' => ?_) h⟩
    have hT : Till k S (listed.setIfInBounds j true) w' := h'.1.imp hpast id
    exact ⟨hT, wpHeadK_of_plan hsel ht hQ r _ _ a' w' hB' (inv.set hj hin) hpast hT h'.2⟩
theorem wp_region_planK' {id : Nat} {a : Act} {w : World} {l : List Oper} (k : Nat) (S : World → Prop) (n : Nat) (p : List (Nat × Nat)) (hm : P.follows .mixedOrders = true)
    (hB : regionKB .any l.toArray k n p = true) (hQ : ∀ c a a' w, Q (.panic c) a' w → Q (.panic c) a w) (hS : S w.drew) (h : wpPlanK P l Q k S n p false a w.drew) : (Code.region id l.toArray true).wp P Q a w := by
  simp only [regionKB, Bool.and_eq_true, decide_eq_true_eq] at hB
  obtain ⟨⟨⟨⟨hsel, hlen⟩, hn⟩, ht⟩, hp⟩ := hB
  have inv0 : HeadInv .any l.toArray n (Array.replicate l.toArray.size false) :=
    ⟨by simp, fun j oj _ hl => (by rw [getD_replicate_false] at hl; cases hl), fun t _ ht => getD_in (by simpa using ht) (getD_replicate_false _ _)⟩
  have H := wpHeadK_of_plan (md := .any) hsel ht hQ p false _ a _ hp inv0 (fun h => by cases h) (.inr hS) h
  refine wp_region_any hm ?_
  have := wpAny_of_wpHeadK (g := l.toArray.size - n) (fun listed a' w' hL => by
    have hdl : (l.drop n).length = l.toArray.size - n := by simp
    have := wpAny_of_seq (md := .any) (Q' := Q) (l.drop n) n listed a' w' (fun j => by simp [List.getElem?_drop]) (by rw [hdl]; exact hL.1) hL.2
    rwa [hdl] at this) _ _ _ _ H
  rw [hlen, show n + (l.toArray.size - n) = l.toArray.size by omega] at this
  exact this
/-- THE RULE: a plan with a condition until k. -/
theorem wp_region_planK {id : Nat} {a : Act} {w : World} {l : List Oper} (k : Nat) (S : World → Prop) (n : Nat) (p : List (Nat × Nat)) (hm : P.follows .mixedOrders = true)
    (hB : regionKB .any l.toArray k n p = true) (hS : S w.drew) (h : wpPlanK P l (NoPanic Q) k S n p false a w.drew) : (Code.region id l.toArray true).wp P Q a w :=
  wp_region_noPanic (wp_region_planK' k S n p hm hB (fun _ _ _ _ h => h.elim) hS h)
theorem planK_look {l : List Oper} {n i : Nat} {past : Bool} {r : List (Nat × Nat)} {a : Act} {w : World} {o : Oper} {v : Value} (ho : l[i]? = some o) (hw : Region.wanted o (yielded l.toArray a.tmps) = true)
    (hy : ∀ w0, (execOp a.eval o).run P w0 = .ok (.value v) w0) (h : wpPlanK P l Q k S n r past (a.put o.dst v) w) : wpPlanK P l Q k S n ((i, 0) :: r) past a w :=
  ⟨o, v, ho, .inl ⟨hw, fun w0 _ => hy w0⟩, h⟩
theorem planK_see {l : List Oper} {n i : Nat} {past : Bool} {r : List (Nat × Nat)} {a : Act} {w : World} {o : Oper} {v : Value} (ho : l[i]? = some o) (hw : Region.wanted o (yielded l.toArray a.tmps) = true)
    (hy : ∀ w0, S w0 → (execOp a.eval o).run P w0 = .ok (.value v) w0) (h : wpPlanK P l Q k S n r past (a.put o.dst v) w) : wpPlanK P l Q k S n ((i, 1) :: r) past a w :=
  ⟨o, v, ho, .inl ⟨hw, hy⟩, h⟩
theorem planK_do {l : List Oper} {n i : Nat} {past : Bool} {r : List (Nat × Nat)} {a : Act} {w : World} {o : Oper} (ho : l[i]? = some o)
    (h : wpList P l.toArray (Exit.then (fun a' w' => ((past || i == k) = true ∨ S w') ∧ wpPlanK P l Q k S n r (past || i == k) a' w') Q) [o] a w) : wpPlanK P l Q k S n ((i, 2) :: r) past a w := by
  show wpOp P l.toArray Q i _ a w
  have ho' : l.toArray[i]? = some o := by simpa using ho
  unfold wpOp
  simp only [ho']
  unfold wpList at h
  split
  · rename_i hw
    rw [if_pos hw] at h
    refine h.imp (fun h => ?_) id
    unfold Oper.wp at h ⊢
    generalize (execOp a.eval o).run P w = r at h ⊢
    cases r with
    | ok nx w' =>
      cases nx <;> simp only [Oper.upon, wpList, Exit.then] at h ⊢ <;>
        first
          | exact h
          | exact Calls.mono h (fun e w'' he => by cases e <;> exact he)
    | halt x w' => cases x <;> simp only [Oper.upon, Exit.then] at h ⊢ <;> exact h
  · rename_i hw
    rw [if_neg hw] at h
    exact h
theorem planK_load {l : List Oper} {n i : Nat} {past : Bool} {r : List (Nat × Nat)} {a : Act} {w : World} {o : Oper} (ho : l[i]? = some o) (hw : Region.wanted o (yielded l.toArray a.tmps) = true) (ty : TypeId) (x : Operand) (hop : o.op = .load ty x) (g off m : Nat) (hx : a.eval x = .pointer (some ⟨g, off, none⟩))
    {t : TypeId} {cur : Array Value} {fr : Nat × Nat} {d : TypeDesc} (hg : ∀ w0, S w0 → w0.heap[g]? = some (.cells cur t fr)) (hu : P.underlying ty = some d) (hd : d.isRow = true) (hi : (P.info? ty).map (·.size) = some m) (hfit : off + m ≤ cur.size) (cs : Array Value) (hv : cur.extract off (off + m) = cs)
    (h : wpPlanK P l Q k S n r past (a.put o.dst (.agg cs)) w) : wpPlanK P l Q k S n ((i, 1) :: r) past a w :=
  planK_see ho hw (fun w0 hS => by
    unfold execOp
    simp only [hop, hx, Instr.loadAt, Instr.sureAddr, Sem.run_bind, Sem.run_pure, Result.andThen_ok, run_load_part w0 (hg w0 hS) hu hd hi hfit, hv]) h
theorem planK_end {l : List Oper} {n : Nat} {past : Bool} {a : Act} {w : World} (h : wpList P l.toArray Q (l.drop n) a w) : wpPlanK P l Q k S n [] past a w := h
end
end Go.Proofs.YtmeglndnkdgkoaaGreat
