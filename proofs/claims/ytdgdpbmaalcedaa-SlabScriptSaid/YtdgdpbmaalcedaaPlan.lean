/- Plain theory of regions whose order is drawn: a region may be walked along a chosen order ('plan'), if whatever only looks is told by one condition 'S' on worlds that stays. -/
import Derived.Test.YtdgdpbmaalcedaaLaws
import Derived.StillTail
import Derived.Deep.RegionHeld3
namespace Go.Proofs.Ytdgdpbmaalcedaa
open Go Go.RowKit

section
variable {P : Program} {ops : Array Oper} {Q : Exit → Act → World → Prop} {md : Region.Mode} {S : World → Prop}

def wpHead (P : Program) (md : Region.Mode) (ops : Array Oper) (Q : Exit → Act → World → Prop) (S : World → Prop) (n : Nat) (L : Array Bool → Act → World → Prop) : Nat → Array Bool → Act → World → Prop
  | 0, listed, a, w => L listed a w
  | f + 1, listed, a, w =>
    Region.ready md ops listed ≠ [] ∧ ∀ i ∈ Region.ready md ops listed, i < n ∧ wpOp P ops Q i (fun a' w' => S w' ∧ wpHead P md ops Q S n L f (listed.setIfInBounds i true) a' w') a w

theorem wpAny_of_wpHead {n g : Nat} {L : Array Bool → Act → World → Prop} (hL : ∀ listed a w, L listed a w → wpAny P md ops Q g listed a w) :
    ∀ (f : Nat) (listed : Array Bool) (a : Act) (w : World), wpHead P md ops Q S n L f listed a w → wpAny P md ops Q (f + g) listed a w
  | 0, listed, a, w, h => by rw [Nat.zero_add]; exact hL _ _ _ h
  | f + 1, listed, a, w, h => by
    rw [show f + 1 + g = (f + g) + 1 by omega]
    exact ⟨fun h0 => absurd h0 h.1, fun i hi => wpOp_mono (fun a' w' h' => wpAny_of_wpHead hL f _ a' w' h'.2) (h.2 i hi).2⟩

/-- The tail waits for all of the head; if there is no tail nothing is asked. -/
def tailB (md : Region.Mode) (ops : Array Oper) (n : Nat) : Bool := decide (n = ops.size) || (decide (n < ops.size) && Region.sinkB md ops n && Region.chainB md ops n)

theorem tail_late {n : Nat} {listed : Array Bool} (ht : tailB md ops n = true) (inv : HeadInv md ops n listed) {i : Nat} (hi : i < n) (hun : listed.getD i true = false) :
    ∀ j ∈ Region.ready md ops listed, j < n := by
  intro j hj
  simp only [tailB, Bool.or_eq_true, Bool.and_eq_true, decide_eq_true_eq] at ht
  rcases ht with h | ⟨⟨h, hs⟩, hc⟩
  · obtain ⟨_, oj, hoj, _⟩ := mem_ready.1 hj
    have := (Array.getElem?_eq_some_iff.1 hoj).1
    omega
  · rcases Nat.lt_or_ge j n with h' | h'
    · exact h'
    · exact absurd hj (tail_waits hs hc h inv _ i rfl hi hun j h')

theorem wpHead_first {n i : Nat} {oi : Oper} {v : Value} {L : Array Bool → Act → World → Prop} (hi : ops[i]? = some oi) (hsel : ∀ (j : Nat) (o : Oper) cs b, ops[j]? = some o → o.op ≠ .select cs b)
    (hQ : ∀ c a w, Q (.panic c) (a.put oi.dst v) w → Q (.panic c) a w) (ht : tailB md ops n = true) (hin : i < n)
    (hdone : ∀ listed a w, L listed a w → ∀ j ∈ Region.ready md ops listed, n ≤ j) :
    ∀ (f : Nat) (listed : Array Bool) (a : Act) (w : World), HeadInv md ops n listed →
      (∀ j oj, ops[j]? = some oj → j ≠ i → listed.getD j true = false → (∀ e ∈ oj.after, Region.binds md e = true → e.on ≠ i) → oi.apart ops oj = true) →
      i ∈ Region.ready md ops listed → YieldsIf P ops S oi v a → S w →
      wpHead P md ops Q S n L f (listed.setIfInBounds i true) (a.put oi.dst v) w → wpHead P md ops Q S n L (f + 1) listed a w := by
  intro f
  induction f with
  | zero =>
    intro listed a w inv _ hr hy hS H
    have hun := (mem_ready.1 hr).1
    refine ⟨fun h => (by rw [h] at hr; cases hr), fun j hj => ?_⟩
    have hjn := tail_late ht inv hin hun j hj
    refine ⟨hjn, ?_⟩
    by_cases hji : j = i
    · subst hji; exact hy.wpOp hi hS ⟨hS, H⟩
    · have := hdone _ _ _ H j (ready_mono hj hji)
      omega
  | succ f ih =>
    intro listed a w inv hfree hr hy hS H
    have hun := (mem_ready.1 hr).1
    refine ⟨fun h => (by rw [h] at hr; cases hr), fun j hj => ?_⟩
    have hjn := tail_late ht inv hin hun j hj
    refine ⟨hjn, ?_⟩
    by_cases hji : j = i
    · subst hji; exact hy.wpOp hi hS ⟨hS, H⟩
    · have h1 := (H.2 j (ready_mono hj hji)).2
      obtain ⟨hjun, oj, hoj, hall⟩ := mem_ready.1 hj
      have hnot : ∀ e ∈ oj.after, Region.binds md e = true → e.on ≠ i := fun e he hb heq => by
        have h1 := hall e he hb
        rw [heq, getD_both hun] at h1
        cases h1
      have h2 := wpOp_putIf hoj (hfree j oj hoj hji hjun hnot) (fun cs b => hsel i oi cs b hi) (fun cs b => hsel j oj cs b hoj) hQ hy h1
      have hfree' : ∀ k ok, ops[k]? = some ok → k ≠ i → (listed.setIfInBounds j true).getD k true = false →
          (∀ e ∈ ok.after, Region.binds md e = true → e.on ≠ i) → oi.apart ops ok = true := fun k ok hk hki hun hno => by
        refine hfree k ok hk hki ?_ hno
        by_cases hjk : j = k
        · subst hjk; exact hjun
        · rw [getD_set_ne true hjk] at hun; exact hun
      refine wpOp_mono (fun a' w' h3 => ⟨h3.2.1, ih (listed.setIfInBounds j true) a' w' (inv.set hj hjn) hfree' (ready_mono hr (Ne.symm hji)) h3.1 h3.2.1 ?_⟩) h2
      rw [Array.setIfInBounds_comm _ _ hji]
      exact h3.2.2

/-- The walk along a plan: 'false': the operation only looks; 'true': it may do anything. Behind the plan: the operations from number 'n' on, in the text's order. -/
def wpPlan (P : Program) (l : List Oper) (Q : Exit → Act → World → Prop) (S : World → Prop) (n : Nat) : List (Nat × Bool) → Act → World → Prop
  | [], a, w => wpList P l.toArray Q (l.drop n) a w
  | (i, false) :: r, a, w => ∃ o v, l[i]? = some o ∧ YieldsIf P l.toArray S o v a ∧ wpPlan P l Q S n r (a.put o.dst v) w
  | (i, true) :: r, a, w => wpOp P l.toArray Q i (fun a' w' => S w' ∧ wpPlan P l Q S n r a' w') a w

def planB (md : Region.Mode) (ops : Array Oper) (n : Nat) : List (Nat × Bool) → Array Bool → Bool
  | [], listed => Region.seqB md ops (ops.size - n) n listed
  | (i, false) :: r, listed => decide (i < n) && (Region.ready md ops listed).contains i && Region.free md ops listed i && planB md ops n r (listed.setIfInBounds i true)
  | (i, true) :: r, listed => decide (i < n) && decide (Region.ready md ops listed = [i]) && planB md ops n r (listed.setIfInBounds i true)

def regionB (md : Region.Mode) (ops : Array Oper) (n : Nat) (p : List (Nat × Bool)) : Bool :=
  Region.noSelect ops && decide (p.length = n) && decide (n ≤ ops.size) && tailB md ops n && planB md ops n p (Array.replicate ops.size false)

theorem wpHead_of_plan {l : List Oper} {n : Nat} (hsel : Region.noSelect l.toArray = true) (ht : tailB md l.toArray n = true) (hQ : ∀ c a a' w, Q (.panic c) a' w → Q (.panic c) a w) :
    ∀ (p : List (Nat × Bool)) (listed : Array Bool) (a : Act) (w : World), planB md l.toArray n p listed = true → HeadInv md l.toArray n listed → S w → wpPlan P l Q S n p a w →
    wpHead P md l.toArray Q S n (fun listed a w => Region.seqB md l.toArray (l.toArray.size - n) n listed = true ∧ wpList P l.toArray Q (l.drop n) a w) p.length listed a w
  | [], listed, a, w, hB, _, _, h => ⟨hB, h⟩
  | (i, false) :: r, listed, a, w, hB, inv, hS, h => by
    simp only [planB, Bool.and_eq_true, decide_eq_true_eq] at hB
    obtain ⟨⟨⟨hin, hr⟩, hf⟩, hB'⟩ := hB
    obtain ⟨o, v, ho, hy, h'⟩ := h
    have hr' : i ∈ Region.ready md l.toArray listed := by simpa using hr
    have ho' : l.toArray[i]? = some o := by simpa using ho
    exact wpHead_first ho' (Region.noSelect_spec hsel) (fun c a w => hQ c _ _ w) ht hin (fun listed a w hL => seqB_ready hL.1) r.length listed a w inv (Region.free_spec ho' hf) hr' hy hS
      (wpHead_of_plan hsel ht hQ r _ _ w hB' (inv.set hr' hin) hS h')
  | (i, true) :: r, listed, a, w, hB, inv, hS, h => by
    simp only [planB, Bool.and_eq_true, decide_eq_true_eq] at hB
    obtain ⟨⟨hin, hr⟩, hB'⟩ := hB
    refine ⟨by rw [hr]; simp, fun j hj => ?_⟩
    have hji : j = i := by rw [hr] at hj; simpa using hj
    subst hji
    exact ⟨hin, wpOp_mono (fun a' w' h' => ⟨h'.1, wpHead_of_plan hsel ht hQ r _ a' w' hB' (inv.set hj hin) h'.1 h'.2⟩) h⟩

theorem wp_region_plan' {id : Nat} {a : Act} {w : World} {l : List Oper} (S : World → Prop) (n : Nat) (p : List (Nat × Bool)) (hm : P.follows .mixedOrders = true)
    (hB : regionB .any l.toArray n p = true) (hQ : ∀ c a a' w, Q (.panic c) a' w → Q (.panic c) a w) (hS : S w.drew) (h : wpPlan P l Q S n p a w.drew) : (Code.region id l.toArray true).wp P Q a w := by
  simp only [regionB, Bool.and_eq_true, decide_eq_true_eq] at hB
  obtain ⟨⟨⟨⟨hsel, hlen⟩, hn⟩, ht⟩, hp⟩ := hB
  have inv0 : HeadInv .any l.toArray n (Array.replicate l.toArray.size false) :=
    ⟨by simp, fun j oj _ hl => (by rw [getD_replicate_false] at hl; cases hl), fun t _ ht => getD_in (by simpa using ht) (getD_replicate_false _ _)⟩
  have H := wpHead_of_plan (md := .any) hsel ht hQ p _ a _ hp inv0 hS h
  refine wp_region_any hm ?_
  have := wpAny_of_wpHead (g := l.toArray.size - n) (fun listed a' w' hL => by
    have hdl : (l.drop n).length = l.toArray.size - n := by simp
    have := wpAny_of_seq (md := .any) (Q' := Q) (l.drop n) n listed a' w' (fun j => by simp [List.getElem?_drop]) (by rw [hdl]; exact hL.1) hL.2
    rwa [hdl] at this) _ _ _ _ H
  rw [hlen, show n + (l.toArray.size - n) = l.toArray.size by omega] at this
  exact this

/-- THE RULE: a region that draws, walked along a plan; it must be shown not to panic. -/
theorem wp_region_plan {id : Nat} {a : Act} {w : World} {l : List Oper} (S : World → Prop) (n : Nat) (p : List (Nat × Bool)) (hm : P.follows .mixedOrders = true)
    (hB : regionB .any l.toArray n p = true) (hS : S w.drew) (h : wpPlan P l (NoPanic Q) S n p a w.drew) : (Code.region id l.toArray true).wp P Q a w :=
  wp_region_noPanic (wp_region_plan' S n p hm hB (fun _ _ _ _ h => h.elim) hS h)

/-- An operation that only looks. -/
theorem plan_look {l : List Oper} {n i : Nat} {r : List (Nat × Bool)} {a : Act} {w : World} {o : Oper} {v : Value} (ho : l[i]? = some o) (hw : Region.wanted o (yielded l.toArray a.tmps) = true)
    (hy : ∀ w0, S w0 → (execOp a.eval o).run P w0 = .ok (.value v) w0) (h : wpPlan P l Q S n r (a.put o.dst v) w) : wpPlan P l Q S n ((i, false) :: r) a w :=
  ⟨o, v, ho, .inl ⟨hw, hy⟩, h⟩
/-- One whose guard says no. -/
theorem plan_skip {l : List Oper} {n i : Nat} {r : List (Nat × Bool)} {a : Act} {w : World} {o : Oper} (ho : l[i]? = some o) (hw : Region.wanted o (yielded l.toArray a.tmps) = false)
    (h : wpPlan P l Q S n r (a.put o.dst undef) w) : wpPlan P l Q S n ((i, false) :: r) a w :=
  ⟨o, undef, ho, .inr ⟨hw, rfl⟩, h⟩
/-- One that may do anything: by itself, as the walk knows it. -/
theorem plan_do {l : List Oper} {n i : Nat} {r : List (Nat × Bool)} {a : Act} {w : World} {o : Oper} (ho : l[i]? = some o)
    (h : wpList P l.toArray (Exit.then (fun a' w' => S w' ∧ wpPlan P l Q S n r a' w') Q) [o] a w) : wpPlan P l Q S n ((i, true) :: r) a w := by
  show wpOp P l.toArray Q i _ a w
  have ho' : l.toArray[i]? = some o := by simpa using ho
  unfold wpOp
  simp only [ho']
  unfold wpList at h
  split
  · rename_i hw
    rw [if_pos hw] at h
    refine h.imp (fun h => ?_) id
    unfold Oper.wp at h ⊢
    generalize (execOp a.eval o).run P w = r at h ⊢
    cases r with
    | ok nx w' =>
      cases nx <;> simp only [Oper.upon, wpList, Exit.then] at h ⊢ <;>
        first
          | exact h
          | exact Calls.mono h (fun e w'' he => by cases e <;> exact he)
    | halt x w' => cases x <;> simp only [Oper.upon, Exit.then] at h ⊢ <;> exact h
  · rename_i hw
    rw [if_neg hw] at h
    exact h
/-- A whole struct, or a part of a row, is read. -/
theorem plan_load_part {l : List Oper} {n i : Nat} {r : List (Nat × Bool)} {a : Act} {w : World} {o : Oper} (ho : l[i]? = some o) (hgd : o.guard = none) (ty : TypeId) (x : Operand) (hop : o.op = .load ty x) (g off k : Nat) (hx : a.eval x = .pointer (some ⟨g, off, none⟩))
    {t : TypeId} {cur : Array Value} {fr : Nat × Nat} {d : TypeDesc} (hg : ∀ w0, S w0 → w0.heap[g]? = some (.cells cur t fr)) (hu : P.underlying ty = some d) (hd : d.isRow = true) (hi : (P.info? ty).map (·.size) = some k) (hfit : off + k ≤ cur.size) (cs : Array Value) (hv : cur.extract off (off + k) = cs)
    (h : wpPlan P l Q S n r (a.put o.dst (.agg cs)) w) : wpPlan P l Q S n ((i, false) :: r) a w :=
  plan_look ho (by simp [Region.wanted, hgd]) (fun w0 hS => by
    unfold execOp
    simp only [hop, hx, Instr.loadAt, Instr.sureAddr, Sem.run_bind, Sem.run_pure, Result.andThen_ok, run_load_part w0 (hg w0 hS) hu hd hi hfit, hv]) h
theorem plan_build_two {l : List Oper} {n i : Nat} {r : List (Nat × Bool)} {a : Act} {w : World} {o : Oper} (ho : l[i]? = some o) (hgd : o.guard = none) (t k j : Nat) (x y : Operand) (hop : o.op = .build t #[(k, x), (j, y)])
    (vx vy : Value) (hx : a.eval x = vx) (hy : a.eval y = vy) (cells : Array Value) (hf : P.built t [(k, vx), (j, vy)] = some cells)
    (h : wpPlan P l Q S n r (a.put o.dst (.agg cells)) w) : wpPlan P l Q S n ((i, false) :: r) a w :=
  plan_look ho (by simp [Region.wanted, hgd]) (fun w0 _ => by
    unfold execOp
    have := run_build (P := P) w0 t (#[(k, x), (j, y)].map fun (i, x) => (i, a.eval x)) cells (by simpa [hx, hy] using hf)
    simp only [hop, Sem.run_bind, this, Result.andThen_ok]
    rfl) h
theorem plan_end {l : List Oper} {n : Nat} {a : Act} {w : World} (h : wpList P l.toArray Q (l.drop n) a w) : wpPlan P l Q S n [] a w := h
end

end Go.Proofs.Ytdgdpbmaalcedaa
