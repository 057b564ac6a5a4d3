/- Regions whose order is drawn, inside a fence, in a round too: walked along a plan, as 'wp_region_plan' does outside. -/
import Derived.Test.YtmeglndnkdgkoaaGreatLawsA
import Derived.OrdersIn
import Derived.OwnWalkIn
namespace Go.Proofs.YtmeglndnkdgkoaaGreat
open Go Go.RowKit

section
variable {F : Fence} {n : Nat} {P : Program} {ops : Array Oper} {Q : Exit → Act → World → Prop} {md : Region.Mode} {S : World → Prop}
/-- It yields under S, and it calls nothing. -/
def LooksIn (P : Program) (ops : Array Oper) (S : World → Prop) (o : Oper) (v : Value) (a : Act) : Prop := YieldsIf P ops S o v a ∧ ∀ w, o.about P w a.eval = none
theorem LooksIn.same {o : Oper} {v : Value} {a a' : Act} (h : LooksIn P ops S o v a) (he : execOp a'.eval o = execOp a.eval o) (hw : Region.wanted o (yielded ops a'.tmps) = Region.wanted o (yielded ops a.tmps))
    (hb : ∀ w, o.about P w a'.eval = o.about P w a.eval) : LooksIn P ops S o v a' :=
  ⟨h.1.of_same he hw, fun w => (hb w).trans (h.2 w)⟩
theorem LooksIn.step {i : Nat} {o : Oper} {v : Value} {a : Act} {w : World} (hi : ops[i]? = some o) (hnd : ∀ c, o.op ≠ .defer c) (h : LooksIn P ops S o v a) (hS : S w) {K : Act → World → Prop} (hK : K (a.put o.dst v) w) : wpOpIn F n P ops Q i K a w := by
  have hab : ∀ f, o.about P w a.eval = some f → F.fn f := fun f e => by rw [h.2 w] at e; cases e
  unfold Go.wpOpIn
  rw [hi]
  dsimp only
  rcases h.1 with ⟨hw, hv⟩ | ⟨hw, rfl⟩
  · rw [if_pos hw]
    unfold Oper.wpIn
    rw [Oper.semAt_plain F _ _ hnd, hv w hS]
    exact ⟨hab, hK⟩
  · rw [if_neg (by rw [hw]; decide)]
    exact ⟨hab, hK⟩
/-- What is apart from an operation that looks may go first or behind. -/
theorem LooksIn.swap {j : Nat} {oi oj : Oper} {v : Value} (hj : ops[j]? = some oj) (hap : oi.apart ops oj = true) (hsi : ∀ cs b, oi.op ≠ .select cs b) (hsj : ∀ cs b, oj.op ≠ .select cs b) (hnd : ∀ c, oj.op ≠ .defer c)
    (hQ : ∀ c a w, Q (.panic c) (a.put oi.dst v) w → Q (.panic c) a w) {K : Act → World → Prop} {a : Act} {w : World} (hy : LooksIn P ops S oi v a) (h : wpOpIn F n P ops Q j K (a.put oi.dst v) w) :
    wpOpIn F n P ops Q j (fun a' w' => LooksIn P ops S oi v a' ∧ K (a'.put oi.dst v) w') a w := by
  obtain ⟨h1, h2, h3⟩ := Oper.apart_spec hap
  have keep : ∀ u, LooksIn P ops S oi v (a.put oj.dst u) := fun u => hy.same (execOp_put oi hsi a oj.dst u h3) (wanted_put oi a oj.dst u h3) (fun w => about_put oi w a oj.dst u h3)
  have back : ∀ u, K ((a.put oi.dst v).put oj.dst u) = K ((a.put oj.dst u).put oi.dst v) := fun u => by rw [Act.put_comm a v u h2]
  unfold Go.wpOpIn at h ⊢
  rw [hj] at h ⊢
  dsimp only at h ⊢
  rw [wanted_put oj a oi.dst v h1, about_put oj w a oi.dst v h1] at h
  by_cases hw : Region.wanted oj (yielded ops a.tmps) = true
  · rw [if_pos hw] at h ⊢
    unfold Oper.wpIn at h ⊢
    rw [about_put oj w a oi.dst v h1, Oper.semAt_plain F _ _ hnd, execOp_put oj hsj a oi.dst v h1] at h
    rw [Oper.semAt_plain F _ _ hnd]
    refine ⟨h.1, ?_⟩
    have h := h.2
    revert h
    cases (execOp a.eval oj).run P w with
    | ok x w' =>
      cases x with
      | value u => intro h; simp only [Oper.uponIn] at h ⊢; exact ⟨keep u, by rw [← back]; exact h⟩
      | skip => intro h; simp only [Oper.uponIn] at h ⊢; exact ⟨keep _, by rw [← back]; exact h⟩
      | defer d =>
        intro h
        simp only [Oper.uponIn] at h ⊢
        have hd : LooksIn P ops S oi v { a with defers := d :: a.defers } := hy.same rfl rfl (fun _ => rfl)
        refine ⟨hd.same (execOp_put oi hsi _ oj.dst undef h3) (wanted_put oi _ oj.dst undef h3) (fun w => about_put oi w _ oj.dst undef h3), ?_⟩
        rw [← Act.put_comm _ v undef h2, ← Act.put_defers]
        exact h
      | enter f args =>
        intro h
        simp only [Oper.uponIn] at h ⊢
        exact ⟨h.1, CallsIn.mono h.2 fun e w2 he => by
          cases e with
          | returned u => exact ⟨keep u, by rw [← back]; exact he⟩
          | panicked c => exact hQ _ _ _ he
          | outgrown => exact he⟩
      | row row args => intro h; simp only [Oper.uponIn] at h ⊢; exact ⟨h.1, RowsIn.mono h.2 fun u w2 he => ⟨keep u, by rw [← back]; exact he⟩⟩
      | round l f tmps assign body =>
        intro h
        simp only [Oper.uponIn] at h ⊢
        exact ⟨h.1, RoundIn.mono h.2 fun e w2 he => by
          cases e with
          | returned u => exact ⟨keep u, by rw [← back]; exact he⟩
          | panicked c => exact hQ _ _ _ he
          | outgrown => exact he⟩
      | _ => intro h; simp only [Oper.uponIn] at h ⊢
    | halt x w' =>
      cases x with
      | panic u => intro h; simp only [Oper.uponIn] at h ⊢; exact hQ _ _ _ h
      | _ => intro h; simp only [Oper.uponIn] at h ⊢
  · rw [if_neg hw] at h ⊢
    exact ⟨h.1, keep _, by rw [← back]; exact h.2⟩
/-- All of a region, S behind each operation. -/
def wpAllIn (F : Fence) (n : Nat) (P : Program) (md : Region.Mode) (ops : Array Oper) (Q : Exit → Act → World → Prop) (S : World → Prop) : Nat → Array Bool → Act → World → Prop
  | 0, listed, a, w => Region.ready md ops listed = [] ∧ Q .normal a w
  | f + 1, listed, a, w => Region.ready md ops listed ≠ [] ∧ ∀ i ∈ Region.ready md ops listed, wpOpIn F n P ops Q i (fun a' w' => S w' ∧ wpAllIn F n P md ops Q S f (listed.setIfInBounds i true) a' w') a w
theorem wpAnyIn_of_all : ∀ (f : Nat) (listed : Array Bool) (a : Act) (w : World), wpAllIn F n P md ops Q S f listed a w → wpAnyIn F n P md ops Q f listed a w
  | 0, _, _, _, h => h
  | f + 1, _, _, _, h => ⟨fun h0 => absurd h0 h.1, fun i hi => wpOpIn_mono (fun a' w' h' => wpAnyIn_of_all f _ a' w' h'.2) (h.2 i hi)⟩
def noDefer (ops : Array Oper) : Bool := ops.all fun o => match o.op with | .defer _ => false | _ => true
theorem noDefer_spec (h : noDefer ops = true) {i : Nat} {o : Oper} (hi : ops[i]? = some o) : ∀ c, o.op ≠ .defer c := fun c e => by
  obtain ⟨hlt, he⟩ := Array.getElem?_eq_some_iff.1 hi
  unfold noDefer at h
  rw [Array.all_eq_true] at h
  have := h i hlt
  rw [he, e] at this
  cases this
theorem wpAllIn_first {i : Nat} {oi : Oper} {v : Value} (hi : ops[i]? = some oi) (hsel : ∀ (j : Nat) (o : Oper) cs b, ops[j]? = some o → o.op ≠ .select cs b) (hnd : noDefer ops = true) (hQ : ∀ c a w, Q (.panic c) (a.put oi.dst v) w → Q (.panic c) a w) :
    ∀ (f : Nat) (listed : Array Bool) (a : Act) (w : World),
      (∀ j oj, ops[j]? = some oj → j ≠ i → listed.getD j true = false → (∀ e ∈ oj.after, Region.binds md e = true → e.on ≠ i) → oi.apart ops oj = true) →
      i ∈ Region.ready md ops listed → LooksIn P ops S oi v a → S w → wpAllIn F n P md ops Q S f (listed.setIfInBounds i true) (a.put oi.dst v) w → wpAllIn F n P md ops Q S (f + 1) listed a w := by
  intro f
  induction f with
  | zero =>
    intro listed a w _ hr hy hS H
    refine ⟨fun h => (by rw [h] at hr; cases hr), fun j hj => ?_⟩
    by_cases hji : j = i
    · subst hji; exact hy.step hi (noDefer_spec hnd hi) hS ⟨hS, H⟩
    · have := ready_mono hj hji
      rw [H.1] at this
      cases this
  | succ f ih =>
    intro listed a w hfree hr hy hS H
    have hun := (mem_ready.1 hr).1
    refine ⟨fun h => (by rw [h] at hr; cases hr), fun j hj => ?_⟩
    by_cases hji : j = i
    · subst hji; exact hy.step hi (noDefer_spec hnd hi) hS ⟨hS, H⟩
    · have h1 := H.2 j (ready_mono hj hji)
      obtain ⟨hjun, oj, hoj, hall⟩ := mem_ready.1 hj
      have hnot : ∀ e ∈ oj.after, Region.binds md e = true → e.on ≠ i := fun e he hb heq => by
        have h1 := hall e he hb
        rw [heq, getD_both hun] at h1
        cases h1
      have h2 := LooksIn.swap hoj (hfree j oj hoj hji hjun hnot) (fun cs b => hsel i oi cs b hi) (fun cs b => hsel j oj cs b hoj) (noDefer_spec hnd hoj) hQ hy h1
      refine wpOpIn_mono (fun a' w' h3 => ⟨h3.2.1, ih (listed.setIfInBounds j true) a' w' (fun k ok hk hki hkun hno => ?_) (ready_mono hr (Ne.symm hji)) h3.1 h3.2.1 ?_⟩) h2
      · refine hfree k ok hk hki ?_ hno
        by_cases hjk : j = k
        · subst hjk; exact hjun
        · rw [getD_set_ne true hjk] at hkun; exact hkun
      · rw [Array.setIfInBounds_comm _ _ hji]
        exact h3.2.2
/-- The walk along a plan. -/
def wpPlanIn (F : Fence) (n : Nat) (P : Program) (l : List Oper) (Q : Exit → Act → World → Prop) (S : World → Prop) : List (Nat × Bool) → Act → World → Prop
  | [], a, w => Q .normal a w
  | (i, false) :: r, a, w => ∃ o v, l[i]? = some o ∧ LooksIn P l.toArray S o v a ∧ wpPlanIn F n P l Q S r (a.put o.dst v) w
  | (i, true) :: r, a, w => wpOpIn F n P l.toArray Q i (fun a' w' => S w' ∧ wpPlanIn F n P l Q S r a' w') a w
def planBI (md : Region.Mode) (ops : Array Oper) : List (Nat × Bool) → Array Bool → Bool
  | [], listed => decide (Region.ready md ops listed = [])
  | (i, false) :: r, listed => (Region.ready md ops listed).contains i && Region.free md ops listed i && planBI md ops r (listed.setIfInBounds i true)
  | (i, true) :: r, listed => decide (Region.ready md ops listed = [i]) && planBI md ops r (listed.setIfInBounds i true)
def regionBI (md : Region.Mode) (ops : Array Oper) (p : List (Nat × Bool)) : Bool := Region.noSelect ops && noDefer ops && decide (p.length = ops.size) && planBI md ops p (Array.replicate ops.size false)
theorem wpAllIn_of_plan {l : List Oper} (hsel : Region.noSelect l.toArray = true) (hnd : noDefer l.toArray = true) (hQ : ∀ c a a' w, Q (.panic c) a' w → Q (.panic c) a w) :
    ∀ (p : List (Nat × Bool)) (listed : Array Bool) (a : Act) (w : World), planBI md l.toArray p listed = true → S w → wpPlanIn F n P l Q S p a w → wpAllIn F n P md l.toArray Q S p.length listed a w
  | [], listed, a, w, hB, _, h => ⟨by simpa [planBI] using hB, h⟩
  | (i, false) :: r, listed, a, w, hB, hS, h => by
    simp only [planBI, Bool.and_eq_true] at hB
    obtain ⟨⟨hr, hf⟩, hB'⟩ := hB
    obtain ⟨o, v, ho, hy, h'⟩ := h
    have hr' : i ∈ Region.ready md l.toArray listed := by simpa using hr
    have ho' : l.toArray[i]? = some o := by simpa using ho
    exact wpAllIn_first ho' (Region.noSelect_spec hsel) hnd (fun c a w => hQ c _ _ w) r.length listed a w (Region.free_spec ho' hf) hr' hy hS (wpAllIn_of_plan hsel hnd hQ r _ _ w hB' hS h')
  | (i, true) :: r, listed, a, w, hB, hS, h => by
    simp only [planBI, Bool.and_eq_true, decide_eq_true_eq] at hB
    obtain ⟨hr, hB'⟩ := hB
    refine ⟨by rw [hr]; simp, fun j hj => ?_⟩
    have hji : j = i := by rw [hr] at hj; simpa using hj
    subst hji
    exact wpOpIn_mono (fun a' w' h' => ⟨h'.1, wpAllIn_of_plan hsel hnd hQ r _ a' w' hB' h'.1 h'.2⟩) h
/-- THE RULE, inside a fence. -/
theorem wpIn_region_plan {id : Nat} {a : Act} {w : World} {l : List Oper} (S : World → Prop) (p : List (Nat × Bool)) (hm : P.follows .mixedOrders = true) (hB : regionBI .any l.toArray p = true)
    (hQ : ∀ c a a' w, Q (.panic c) a' w → Q (.panic c) a w) (hS : S w.drew) (h : wpPlanIn F n P l Q S p a w.drew) : (Code.region id l.toArray true).wpIn F n P Q a w := by
  simp only [regionBI, Bool.and_eq_true, decide_eq_true_eq] at hB
  obtain ⟨⟨⟨hsel, hnd⟩, hlen⟩, hp⟩ := hB
  have H := wpAllIn_of_plan (md := .any) hsel hnd hQ p _ a _ hp hS h
  rw [hlen] at H
  exact wpIn_region_any hm (wpAnyIn_of_all _ _ _ _ H)
theorem planI_look {l : List Oper} {i : Nat} {r : List (Nat × Bool)} {a : Act} {w : World} {o : Oper} {v : Value} (ho : l[i]? = some o) (hw : Region.wanted o (yielded l.toArray a.tmps) = true) (hab : ∀ w, o.about P w a.eval = none)
    (hy : ∀ w0, S w0 → (execOp a.eval o).run P w0 = .ok (.value v) w0) (h : wpPlanIn F n P l Q S r (a.put o.dst v) w) : wpPlanIn F n P l Q S ((i, false) :: r) a w :=
  ⟨o, v, ho, ⟨.inl ⟨hw, hy⟩, hab⟩, h⟩
theorem planI_skip {l : List Oper} {i : Nat} {r : List (Nat × Bool)} {a : Act} {w : World} {o : Oper} (ho : l[i]? = some o) (hw : Region.wanted o (yielded l.toArray a.tmps) = false) (hab : ∀ w, o.about P w a.eval = none)
    (h : wpPlanIn F n P l Q S r (a.put o.dst undef) w) : wpPlanIn F n P l Q S ((i, false) :: r) a w :=
  ⟨o, undef, ho, ⟨.inr ⟨hw, rfl⟩, hab⟩, h⟩
theorem planI_do {l : List Oper} {i : Nat} {r : List (Nat × Bool)} {a : Act} {w : World} {o : Oper} (ho : l[i]? = some o)
    (h : wpListIn F n P l.toArray (Exit.then (fun a' w' => S w' ∧ wpPlanIn F n P l Q S r a' w') Q) [o] a w) : wpPlanIn F n P l Q S ((i, true) :: r) a w := by
  show wpOpIn F n P l.toArray Q i _ a w
  have ho' : l.toArray[i]? = some o := by simpa using ho
  unfold Go.wpOpIn
  rw [ho']
  dsimp only
  unfold wpListIn at h
  by_cases hw : Region.wanted o (yielded l.toArray a.tmps) = true
  · rw [if_pos hw] at h ⊢
    unfold Oper.wpIn at h ⊢
    refine ⟨h.1, ?_⟩
    have h := h.2
    revert h
    cases (o.semAt F.round a.eval).run P w with
    | ok x w' =>
      cases x <;> intro h <;> simp only [Oper.uponIn, wpListIn, Exit.then] at h ⊢ <;>
        first
          | exact h
          | exact ⟨h.1, CallsIn.mono h.2 (fun e w2 he => by cases e <;> exact he)⟩
          | exact ⟨h.1, RowsIn.mono h.2 (fun _ _ he => he)⟩
          | exact ⟨h.1, RoundIn.mono h.2 (fun e w2 he => by cases e <;> exact he)⟩
    | halt x w' => cases x <;> intro h <;> simp only [Oper.uponIn, Exit.then] at h ⊢ <;> exact h
  · rw [if_neg hw] at h ⊢
    exact h
theorem planI_load_part {l : List Oper} {i : Nat} {r : List (Nat × Bool)} {a : Act} {w : World} {o : Oper} (ho : l[i]? = some o) (hw : Region.wanted o (yielded l.toArray a.tmps) = true) (ty : TypeId) (x : Operand) (hop : o.op = .load ty x) (g off k : Nat) (hx : a.eval x = .pointer (some ⟨g, off, none⟩))
    {t : TypeId} {cur : Array Value} {fr : Nat × Nat} {d : TypeDesc} (hg : ∀ w0, S w0 → w0.heap[g]? = some (.cells cur t fr)) (hu : P.underlying ty = some d) (hd : d.isRow = true) (hi : (P.info? ty).map (·.size) = some k) (hfit : off + k ≤ cur.size) (cs : Array Value) (hv : cur.extract off (off + k) = cs)
    (h : wpPlanIn F n P l Q S r (a.put o.dst (.agg cs)) w) : wpPlanIn F n P l Q S ((i, false) :: r) a w :=
  planI_look ho hw (fun w => by simp [Oper.about, hop]) (fun w0 hS => by
    unfold execOp
    simp only [hop, hx, Instr.loadAt, Instr.sureAddr, Sem.run_bind, Sem.run_pure, Result.andThen_ok, run_load_part w0 (hg w0 hS) hu hd hi hfit, hv]) h
end
end Go.Proofs.YtmeglndnkdgkoaaGreat
