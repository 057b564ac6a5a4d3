/- Proved contracts and plain laws of the layers below, in one text. -/
import Derived.Test.YtmeglndnkdgkoaaGreatQd1
set_option maxHeartbeats 3200000
set_option maxRecDepth 100000
set_option linter.unusedVariables false
namespace Go.Proofs.YtmeglndnkdgkoaaGreat
open Go Go.RowKit
section
variable {P : Program} {Q : Exit → Act → World → Prop} {md : Region.Mode} {S : World → Prop}
def wpPlanF (P:Program) (l:List Oper) (Q:Exit → Act → World → Prop) (f:Nat) (S:World → Prop) (n:Nat):List (Nat × Bool) → Act → World → Prop
 | [],a,w => wpOp P l.toArray Q f (fun a' w' => S w' ∧ wpPlan P l Q S n [] a' w') a w
 | (i,false) :: r,a,w => ∃ o v,l[i]? = some o ∧ YieldsIf P l.toArray S o v a ∧ wpPlanF P l Q f S n r (a.put o.dst v) w
 | (i,true) :: r,a,w => wpOp P l.toArray Q i (fun a' w' => S w' ∧ wpPlanF P l Q f S n r a' w') a w ∧ wpOp P l.toArray Q f (fun a' w' => S w' ∧ wpPlan P l Q S n ((i,true) :: r) a' w') a w
def planFB (md:Region.Mode) (ops:Array Oper) (f n:Nat):List (Nat × Bool) → Array Bool → Bool
 | [],listed => decide (f < n) && decide (Region.ready md ops listed = [f]) && planB md ops n [] (listed.setIfInBounds f true)
 | (i,false) :: r,listed => decide (i < n) && (Region.ready md ops listed).contains i && Region.free md ops listed i && planFB md ops f n r (listed.setIfInBounds i true)
 | (i,true) :: r,listed => decide (i < n) && decide (f < n) && (decide (Region.ready md ops listed = [i,f]) || decide (Region.ready md ops listed = [f,i])) && planFB md ops f n r (listed.setIfInBounds i true) && planB md ops n ((i,true) :: r) (listed.setIfInBounds f true)
def regionFB (md:Region.Mode) (ops:Array Oper) (f n:Nat) (p:List (Nat × Bool)):Bool :=
 Region.noSelect ops && decide (p.length + 1 = n) && decide (n ≤ ops.size) && tailB md ops n && planFB md ops f n p (Array.replicate ops.size false)
theorem wpHeadF_of_plan {l:List Oper} {f n:Nat} (hsel:Region.noSelect l.toArray = true) (ht:tailB md l.toArray n = true) (hQ:∀ c a a' w,Q (.panic c) a' w → Q (.panic c) a w) :
 ∀ (p:List (Nat × Bool)) (listed:Array Bool) (a:Act) (w:World),planFB md l.toArray f n p listed = true → HeadInv md l.toArray n listed → S w → wpPlanF P l Q f S n p a w →
 wpHead P md l.toArray Q S n (fun listed a w => Region.seqB md l.toArray (l.toArray.size - n) n listed = true ∧ wpList P l.toArray Q (l.drop n) a w) (p.length + 1) listed a w
 | [],listed,a,w,hB,inv,hS,h => by
  simp only [planFB,Bool.and_eq_true,decide_eq_true_eq] at hB
  obtain ⟨⟨hfn,hr⟩,hB'⟩:=hB
  refine ⟨by rw [hr]; simp,fun j hj => ?_⟩
  have hjf:j = f:=by rw [hr] at hj; simpa using hj
  subst hjf
  exact ⟨hfn,wpOp_mono (fun a' w' h' => ⟨h'.1,wpHead_of_plan hsel ht hQ [] _ a' w' hB' (inv.set hj hfn) h'.1 h'.2⟩) h⟩
 | (i,false) :: r,listed,a,w,hB,inv,hS,h => by
  simp only [planFB,Bool.and_eq_true,decide_eq_true_eq] at hB
  obtain ⟨⟨⟨hin,hr⟩,hf⟩,hB'⟩:=hB
  obtain ⟨o,v,ho,hy,h'⟩:=h
  have hr':i ∈ Region.ready md l.toArray listed:=by simpa using hr
  have ho':l.toArray[i]? = some o:=by simpa using ho
  exact wpHead_first ho' (Region.noSelect_spec hsel) (fun c a w => hQ c _ _ w) ht hin (fun listed a w hL => seqB_ready hL.1) (r.length + 1) listed a w inv (Region.free_spec ho' hf) hr' hy hS
   (wpHeadF_of_plan hsel ht hQ r _ _ w hB' (inv.set hr' hin) hS h')
 | (i,true) :: r,listed,a,w,hB,inv,hS,h => by
  simp only [planFB,Bool.and_eq_true,decide_eq_true_eq,Bool.or_eq_true] at hB
  obtain ⟨⟨⟨⟨hin,hfn⟩,hr⟩,hB1⟩,hB2⟩:=hB
  have hmem:∀ j,j ∈ Region.ready md l.toArray listed ↔ j = i ∨ j = f:=fun j => by
   rcases hr with hr | hr
   · rw [hr]; simp
   rw [hr]; simp [or_comm]
  refine ⟨fun h0 => ?_,fun j hj => ?_⟩
  · have:=(hmem i).2 (.inl rfl)
    rw [h0] at this
    cases this
  rcases (hmem j).1 hj with e | e
  · subst e
    exact ⟨hin,wpOp_mono (fun a' w' h' => ⟨h'.1,wpHeadF_of_plan hsel ht hQ r _ a' w' hB1 (inv.set hj hin) h'.1 h'.2⟩) h.1⟩
  subst e
  exact ⟨hfn,wpOp_mono (fun a' w' h' => ⟨h'.1,wpHead_of_plan hsel ht hQ ((i,true) :: r) _ a' w' hB2 (inv.set hj hfn) h'.1 h'.2⟩) h.2⟩
theorem wp_region_planF {id:Nat} {a:Act} {w:World} {l:List Oper} (f:Nat) (S:World → Prop) (n:Nat) (p:List (Nat × Bool)) (hm:P.follows .mixedOrders = true)
 (hB:regionFB .any l.toArray f n p = true) (hS:S w.drew) (h:wpPlanF P l (NoPanic Q) f S n p a w.drew):(Code.region id l.toArray true).wp P Q a w:=by
 refine wp_region_noPanic ?_
 have hQ:∀ c a a' w,NoPanic Q (.panic c) a' w → NoPanic Q (.panic c) a w:=fun _ _ _ _ h => h.elim
 simp only [regionFB,Bool.and_eq_true,decide_eq_true_eq] at hB
 obtain ⟨⟨⟨⟨hsel,hlen⟩,hn⟩,ht⟩,hp⟩:=hB
 have inv0:HeadInv .any l.toArray n (Array.replicate l.toArray.size false) :=
  ⟨by simp,fun j oj _ hl => (by rw [getD_replicate_false] at hl; cases hl),fun t _ ht => getD_in (by simpa using ht) (getD_replicate_false _ _)⟩
 have H:=wpHeadF_of_plan (md:=.any) hsel ht hQ p _ a _ hp inv0 hS h
 refine wp_region_any hm ?_
 have:=wpAny_of_wpHead (g:=l.toArray.size - n) (fun listed a' w' hL => by
  have hdl:(l.drop n).length = l.toArray.size - n:=by simp
  have:=wpAny_of_seq (md:=.any) (Q':=NoPanic Q) (l.drop n) n listed a' w' (fun j => by simp [List.getElem?_drop]) (by rw [hdl]; exact hL.1) hL.2
  rwa [hdl] at this) _ _ _ _ H
 rw [hlen,show n + (l.toArray.size - n) = l.toArray.size by omega] at this
 exact this
theorem planF_look {l:List Oper} {f n i:Nat} {r:List (Nat × Bool)} {a:Act} {w:World} {o:Oper} {v:Value} (ho:l[i]? = some o) (hw:Region.wanted o (yielded l.toArray a.tmps) = true)
 (hy:∀ w0,S w0 → (execOp a.eval o).run P w0 = .ok (.value v) w0) (h:wpPlanF P l Q f S n r (a.put o.dst v) w):wpPlanF P l Q f S n ((i,false) :: r) a w :=
 ⟨o,v,ho,.inl ⟨hw,hy⟩,h⟩
theorem planF_skip {l:List Oper} {f n i:Nat} {r:List (Nat × Bool)} {a:Act} {w:World} {o:Oper} (ho:l[i]? = some o) (hw:Region.wanted o (yielded l.toArray a.tmps) = false)
 (h:wpPlanF P l Q f S n r (a.put o.dst undef) w):wpPlanF P l Q f S n ((i,false) :: r) a w :=
 ⟨o,undef,ho,.inr ⟨hw,rfl⟩,h⟩
theorem wpOp_of_list {l:List Oper} {i:Nat} {a:Act} {w:World} {o:Oper} {K:Act → World → Prop} (ho:l[i]? = some o) (h:wpList P l.toArray (Exit.then K Q) [o] a w):wpOp P l.toArray Q i K a w:=by
 have ho':l.toArray[i]? = some o:=by simpa using ho
 unfold wpOp
 simp only [ho']
 unfold wpList at h
 split
 · rename_i hw
   rw [if_pos hw] at h
   refine h.imp (fun h => ?_) id
   unfold Oper.wp at h ⊢
   generalize (execOp a.eval o).run P w = r at h ⊢
   cases r with
   | ok nx w' =>
    cases nx <;> simp only [Oper.upon,wpList,Exit.then] at h ⊢ <;>
     first
      | exact h
      | exact Calls.mono h (fun e w'' he => by cases e <;> exact he)
   | halt x w' => cases x <;> simp only [Oper.upon,Exit.then] at h ⊢ <;> exact h
 rename_i hw
 rw [if_neg hw] at h
 exact h
theorem planF_do {l:List Oper} {f n i:Nat} {r:List (Nat × Bool)} {a:Act} {w:World} {o of:Oper} (ho:l[i]? = some o) (hof:l[f]? = some of)
 (h:wpList P l.toArray (Exit.then (fun a' w' => S w' ∧ wpPlanF P l Q f S n r a' w') Q) [o] a w) (h2:wpList P l.toArray (Exit.then (fun a' w' => S w' ∧ wpPlan P l Q S n ((i,true) :: r) a' w') Q) [of] a w):wpPlanF P l Q f S n ((i,true) :: r) a w :=
 ⟨wpOp_of_list ho h,wpOp_of_list hof h2⟩
theorem planF_last {l:List Oper} {f n:Nat} {a:Act} {w:World} {of:Oper} (hof:l[f]? = some of)
 (h2:wpList P l.toArray (Exit.then (fun a' w' => S w' ∧ wpPlan P l Q S n [] a' w') Q) [of] a w):wpPlanF P l Q f S n [] a w:=wpOp_of_list hof h2
end
end Go.Proofs.YtmeglndnkdgkoaaGreat
