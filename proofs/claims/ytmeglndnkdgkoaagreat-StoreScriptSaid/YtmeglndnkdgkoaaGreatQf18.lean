/- Laws of the layers below. -/
import Derived.Test.YtmeglndnkdgkoaaGreatQf17
set_option maxHeartbeats 3200000
set_option maxRecDepth 100000
set_option linter.unusedVariables false
namespace Go.Proofs.YtmeglndnkdgkoaaGreat
open Go.RowKit
section
variable {P : Program} {ops : Array Oper} {Q : Exit → Act → World → Prop} {md : Region.Mode} {S : World → Prop} {k : Nat}
def Till (k:Nat) (S:World → Prop) (listed:Array Bool) (w:World):Prop:=listed.getD k false = true ∨ S w
theorem Till.set {i:Nat} (hik:i ≠ k) {listed:Array Bool} {w:World}:Till k S (listed.setIfInBounds i true) w ↔ Till k S listed w:=by
 have:(listed.setIfInBounds i true).getD k false = listed.getD k false:=by
  simp only [Array.getD_eq_getD_getElem?]
  rw [Array.getElem?_setIfInBounds_ne hik]
 unfold Till
 rw [this]
def wpHeadK (P:Program) (md:Region.Mode) (ops:Array Oper) (Q:Exit → Act → World → Prop) (T:Array Bool → World → Prop) (n:Nat) (L:Array Bool → Act → World → Prop):Nat → Array Bool → Act → World → Prop
 | 0,listed,a,w => L listed a w
 | f + 1,listed,a,w =>
  Region.ready md ops listed ≠ [] ∧ ∀ i ∈ Region.ready md ops listed,i < n ∧ wpOp P ops Q i (fun a' w' => T (listed.setIfInBounds i true) w' ∧ wpHeadK P md ops Q T n L f (listed.setIfInBounds i true) a' w') a w
theorem wpAny_of_wpHeadK {T:Array Bool → World → Prop} {n g:Nat} {L:Array Bool → Act → World → Prop} (hL:∀ listed a w,L listed a w → wpAny P md ops Q g listed a w) :
 ∀ (f:Nat) (listed:Array Bool) (a:Act) (w:World),wpHeadK P md ops Q T n L f listed a w → wpAny P md ops Q (f + g) listed a w
 | 0,listed,a,w,h => by rw [Nat.zero_add]; exact hL _ _ _ h
 | f + 1,listed,a,w,h => by
  rw [show f + 1 + g = (f + g) + 1 by omega]
  exact ⟨fun h0 => absurd h0 h.1,fun i hi => wpOp_mono (fun a' w' h' => wpAny_of_wpHeadK hL f _ a' w' h'.2) (h.2 i hi).2⟩
theorem wpHeadK_first {n i:Nat} {oi:Oper} {v:Value} {S':World → Prop} {L:Array Bool → Act → World → Prop} (hi:ops[i]? = some oi) (hik:i ≠ k) (hsel:∀ (j:Nat) (o:Oper) cs b,ops[j]? = some o → o.op ≠ .select cs b)
 (hQ:∀ c a w,Q (.panic c) (a.put oi.dst v) w → Q (.panic c) a w) (ht:tailB md ops n = true) (hin:i < n)
 (hdone:∀ listed a w,L listed a w → ∀ j ∈ Region.ready md ops listed,n ≤ j)
 (hS':∀ listed w,HeadInv md ops n listed → listed.getD i true = false → Till k S listed w → S' w) :
 ∀ (f:Nat) (listed:Array Bool) (a:Act) (w:World),HeadInv md ops n listed →
  (∀ j oj,ops[j]? = some oj → j ≠ i → listed.getD j true = false → (∀ e ∈ oj.after,Region.binds md e = true → e.on ≠ i) → oi.apart ops oj = true) →
  i ∈ Region.ready md ops listed → YieldsIf P ops S' oi v a → Till k S listed w →
  wpHeadK P md ops Q (Till k S) n L f (listed.setIfInBounds i true) (a.put oi.dst v) w → wpHeadK P md ops Q (Till k S) n L (f + 1) listed a w:=by
 intro f
 induction f with
 | zero =>
  intro listed a w inv _ hr hy hS H
  have hun:=(mem_ready.1 hr).1
  refine ⟨fun h => (by rw [h] at hr; cases hr),fun j hj => ?_⟩
  have hjn:=tail_late ht inv hin hun j hj
  refine ⟨hjn,?_⟩
  by_cases hji:j = i
  · subst hji; exact hy.wpOp hi (hS' listed w inv hun hS) ⟨(Till.set hik).2 hS,H⟩
  have:=hdone _ _ _ H j (ready_mono hj hji)
  omega
 | succ f ih =>
  intro listed a w inv hfree hr hy hS H
  have hun:=(mem_ready.1 hr).1
  refine ⟨fun h => (by rw [h] at hr; cases hr),fun j hj => ?_⟩
  have hjn:=tail_late ht inv hin hun j hj
  refine ⟨hjn,?_⟩
  by_cases hji:j = i
  · subst hji; exact hy.wpOp hi (hS' listed w inv hun hS) ⟨(Till.set hik).2 hS,H⟩
  have h1:=(H.2 j (ready_mono hj hji)).2
  obtain ⟨hjun,oj,hoj,hall⟩:=mem_ready.1 hj
  have hnot:∀ e ∈ oj.after,Region.binds md e = true → e.on ≠ i:=fun e he hb heq => by
   have h1:=hall e he hb
   rw [heq,getD_both hun] at h1
   cases h1
  have h2:=wpOp_putIf hoj (hfree j oj hoj hji hjun hnot) (fun cs b => hsel i oi cs b hi) (fun cs b => hsel j oj cs b hoj) hQ hy h1
  have hfree':∀ k ok,ops[k]? = some ok → k ≠ i → (listed.setIfInBounds j true).getD k true = false →
   (∀ e ∈ ok.after,Region.binds md e = true → e.on ≠ i) → oi.apart ops ok = true:=fun k ok hk hki hun hno => by
   refine hfree k ok hk hki ?_ hno
   by_cases hjk:j = k
   · subst hjk; exact hjun
   rw [getD_set_ne true hjk] at hun; exact hun
  refine wpOp_mono (fun a' w' h3 => ?_) h2
  have hT:Till k S (listed.setIfInBounds j true) w':=by
   have:=h3.2.1
   rw [Array.setIfInBounds_comm _ _ (Ne.symm hji)] at this
   exact (Till.set hik).1 this
  refine ⟨hT,ih (listed.setIfInBounds j true) a' w' (inv.set hj hjn) hfree' (ready_mono hr (Ne.symm hji)) h3.1 hT ?_⟩
  rw [Array.setIfInBounds_comm _ _ hji]
  exact h3.2.2
def wpPlanK (P:Program) (l:List Oper) (Q:Exit → Act → World → Prop) (k:Nat) (S:World → Prop) (n:Nat):List (Nat × Nat) → Bool → Act → World → Prop
 | [],_,a,w => wpList P l.toArray Q (l.drop n) a w
 | (i,0) :: r,past,a,w => ∃ o v,l[i]? = some o ∧ YieldsIf P l.toArray (fun _ => True) o v a ∧ wpPlanK P l Q k S n r past (a.put o.dst v) w
 | (i,1) :: r,past,a,w => ∃ o v,l[i]? = some o ∧ YieldsIf P l.toArray S o v a ∧ wpPlanK P l Q k S n r past (a.put o.dst v) w
 | (i,_ + 2) :: r,past,a,w => wpOp P l.toArray Q i (fun a' w' => ((past || i == k) = true ∨ S w') ∧ wpPlanK P l Q k S n r (past || i == k) a' w') a w
def waitsB (md:Region.Mode) (ops:Array Oper) (k i:Nat):Bool:=match ops[k]? with
 | none => false
 | some o => o.after.any (fun e => Region.binds md e && (e.on == i))
def planKB (md:Region.Mode) (ops:Array Oper) (k n:Nat):List (Nat × Nat) → Array Bool → Bool
 | [],listed => Region.seqB md ops (ops.size - n) n listed
 | (i,0) :: r,listed => decide (i < n) && (i != k) && (Region.ready md ops listed).contains i && Region.free md ops listed i && planKB md ops k n r (listed.setIfInBounds i true)
 | (i,1) :: r,listed => decide (i < n) && (i != k) && waitsB md ops k i && (Region.ready md ops listed).contains i && Region.free md ops listed i && planKB md ops k n r (listed.setIfInBounds i true)
 | (i,_ + 2) :: r,listed => decide (i < n) && decide (Region.ready md ops listed = [i]) && planKB md ops k n r (listed.setIfInBounds i true)
def regionKB (md:Region.Mode) (ops:Array Oper) (k n:Nat) (p:List (Nat × Nat)):Bool :=
 Region.noSelect ops && decide (p.length = n) && decide (n ≤ ops.size) && tailB md ops n && planKB md ops k n p (Array.replicate ops.size false)
theorem getD_set_self {listed:Array Bool} {i:Nat} (h:i < listed.size):(listed.setIfInBounds i true).getD i false = true:=by
 simp [Array.getD_eq_getD_getElem?,h]
theorem wpHeadK_of_plan {l:List Oper} {n:Nat} (hsel:Region.noSelect l.toArray = true) (ht:tailB md l.toArray n = true) (hQ:∀ c a a' w,Q (.panic c) a' w → Q (.panic c) a w) :
 ∀ (p:List (Nat × Nat)) (past:Bool) (listed:Array Bool) (a:Act) (w:World),planKB md l.toArray k n p listed = true → HeadInv md l.toArray n listed → (past = true → listed.getD k false = true) → Till k S listed w → wpPlanK P l Q k S n p past a w →
 wpHeadK P md l.toArray Q (Till k S) n (fun listed a w => Region.seqB md l.toArray (l.toArray.size - n) n listed = true ∧ wpList P l.toArray Q (l.drop n) a w) p.length listed a w
 | [],past,listed,a,w,hB,_,_,_,h => ⟨hB,h⟩
 | (i,0) :: r,past,listed,a,w,hB,inv,hp,hS,h => by
  simp only [planKB,Bool.and_eq_true,decide_eq_true_eq,bne_iff_ne] at hB
  obtain ⟨⟨⟨⟨hin,hik⟩,hr⟩,hf⟩,hB'⟩:=hB
  obtain ⟨o,v,ho,hy,h'⟩:=h
  have hr':i ∈ Region.ready md l.toArray listed:=by simpa using hr
  have ho':l.toArray[i]? = some o:=by simpa using ho
  refine wpHeadK_first ho' hik (Region.noSelect_spec hsel) (fun c a w => hQ c _ _ w) ht hin (fun listed a w hL => seqB_ready hL.1) (fun _ _ _ _ _ => trivial) r.length listed a w inv (Region.free_spec ho' hf) hr' hy hS ?_
  refine wpHeadK_of_plan hsel ht hQ r past _ _ w hB' (inv.set hr' hin) (fun h => ?_) ((Till.set hik).2 hS) h'
  have:=hp h
  simp only [Array.getD_eq_getD_getElem?] at this ⊢
  rw [Array.getElem?_setIfInBounds_ne hik]
  exact this
 | (i,1) :: r,past,listed,a,w,hB,inv,hp,hS,h => by
  simp only [planKB,Bool.and_eq_true,decide_eq_true_eq,bne_iff_ne] at hB
  obtain ⟨⟨⟨⟨⟨hin,hik⟩,hwt⟩,hr⟩,hf⟩,hB'⟩:=hB
  obtain ⟨o,v,ho,hy,h'⟩:=h
  have hr':i ∈ Region.ready md l.toArray listed:=by simpa using hr
  have ho':l.toArray[i]? = some o:=by simpa using ho
  refine wpHeadK_first ho' hik (Region.noSelect_spec hsel) (fun c a w => hQ c _ _ w) ht hin (fun listed a w hL => seqB_ready hL.1) (fun listed w inv hun hT => ?_) r.length listed a w inv (Region.free_spec ho' hf) hr' hy hS ?_
  · rcases hT with hk | hS
    · exfalso
      unfold waitsB at hwt
      cases hok:l.toArray[k]? with
      | none => rw [hok] at hwt; cases hwt
      | some ok =>
       rw [hok] at hwt
       simp only [Array.any_eq_true,Bool.and_eq_true,beq_iff_eq] at hwt
       obtain ⟨x,hx,hb,he⟩:=hwt
       have:=inv.closed k ok hok hk _ (Array.getElem_mem hx) hb
       rw [he,getD_both hun] at this
       cases this
    exact hS
  refine wpHeadK_of_plan hsel ht hQ r past _ _ w hB' (inv.set hr' hin) (fun h => ?_) ((Till.set hik).2 hS) h'
  have:=hp h
  simp only [Array.getD_eq_getD_getElem?] at this ⊢
  rw [Array.getElem?_setIfInBounds_ne hik]
  exact this
 | (i,_ + 2) :: r,past,listed,a,w,hB,inv,hp,hS,h => by
  simp only [planKB,Bool.and_eq_true,decide_eq_true_eq] at hB
  obtain ⟨⟨hin,hr⟩,hB'⟩:=hB
  refine ⟨by rw [hr]; simp,fun j hj => ?_⟩
  have hji:j = i:=by rw [hr] at hj; simpa using hj
  subst hji
  have hpast:(past || j == k) = true → (listed.setIfInBounds j true).getD k false = true:=fun h => by
   by_cases hjk:j = k
   · subst hjk
     refine getD_set_self ?_
     obtain ⟨_,oj,hoj,_⟩:=mem_ready.1 hj
     rw [inv.size]
     exact (Array.getElem?_eq_some_iff.1 hoj).1
   have:past = true:=by simpa [hjk] using h
   have:=hp this
   simp only [Array.getD_eq_getD_getElem?] at this ⊢
   rw [Array.getElem?_setIfInBounds_ne hjk]
   exact this
  refine ⟨hin,wpOp_mono (fun a' w' h' => ?_) h⟩
  have hT:Till k S (listed.setIfInBounds j true) w':=h'.1.imp hpast id
  exact ⟨hT,wpHeadK_of_plan hsel ht hQ r _ _ a' w' hB' (inv.set hj hin) hpast hT h'.2⟩
theorem wp_region_planK' {id:Nat} {a:Act} {w:World} {l:List Oper} (k:Nat) (S:World → Prop) (n:Nat) (p:List (Nat × Nat)) (hm:P.follows .mixedOrders = true)
 (hB:regionKB .any l.toArray k n p = true) (hQ:∀ c a a' w,Q (.panic c) a' w → Q (.panic c) a w) (hS:S w.drew) (h:wpPlanK P l Q k S n p false a w.drew):(Code.region id l.toArray true).wp P Q a w:=by
 simp only [regionKB,Bool.and_eq_true,decide_eq_true_eq] at hB
 obtain ⟨⟨⟨⟨hsel,hlen⟩,hn⟩,ht⟩,hp⟩:=hB
 have inv0:HeadInv .any l.toArray n (Array.replicate l.toArray.size false) :=
  ⟨by simp,fun j oj _ hl => (by rw [getD_replicate_false] at hl; cases hl),fun t _ ht => getD_in (by simpa using ht) (getD_replicate_false _ _)⟩
 have H:=wpHeadK_of_plan (md:=.any) hsel ht hQ p false _ a _ hp inv0 (fun h => by cases h) (.inr hS) h
 refine wp_region_any hm ?_
 have:=wpAny_of_wpHeadK (g:=l.toArray.size - n) (fun listed a' w' hL => by
  have hdl:(l.drop n).length = l.toArray.size - n:=by simp
  have:=wpAny_of_seq (md:=.any) (Q':=Q) (l.drop n) n listed a' w' (fun j => by simp [List.getElem?_drop]) (by rw [hdl]; exact hL.1) hL.2
  rwa [hdl] at this) _ _ _ _ H
 rw [hlen,show n + (l.toArray.size - n) = l.toArray.size by omega] at this
 exact this
theorem wp_region_planK {id:Nat} {a:Act} {w:World} {l:List Oper} (k:Nat) (S:World → Prop) (n:Nat) (p:List (Nat × Nat)) (hm:P.follows .mixedOrders = true)
 (hB:regionKB .any l.toArray k n p = true) (hS:S w.drew) (h:wpPlanK P l (NoPanic Q) k S n p false a w.drew):(Code.region id l.toArray true).wp P Q a w :=
 wp_region_noPanic (wp_region_planK' k S n p hm hB (fun _ _ _ _ h => h.elim) hS h)
theorem planK_look {l:List Oper} {n i:Nat} {past:Bool} {r:List (Nat × Nat)} {a:Act} {w:World} {o:Oper} {v:Value} (ho:l[i]? = some o) (hw:Region.wanted o (yielded l.toArray a.tmps) = true)
 (hy:∀ w0,(execOp a.eval o).run P w0 = .ok (.value v) w0) (h:wpPlanK P l Q k S n r past (a.put o.dst v) w):wpPlanK P l Q k S n ((i,0) :: r) past a w :=
 ⟨o,v,ho,.inl ⟨hw,fun w0 _ => hy w0⟩,h⟩
theorem planK_see {l:List Oper} {n i:Nat} {past:Bool} {r:List (Nat × Nat)} {a:Act} {w:World} {o:Oper} {v:Value} (ho:l[i]? = some o) (hw:Region.wanted o (yielded l.toArray a.tmps) = true)
 (hy:∀ w0,S w0 → (execOp a.eval o).run P w0 = .ok (.value v) w0) (h:wpPlanK P l Q k S n r past (a.put o.dst v) w):wpPlanK P l Q k S n ((i,1) :: r) past a w :=
 ⟨o,v,ho,.inl ⟨hw,hy⟩,h⟩
theorem planK_do {l:List Oper} {n i:Nat} {past:Bool} {r:List (Nat × Nat)} {a:Act} {w:World} {o:Oper} (ho:l[i]? = some o)
 (h:wpList P l.toArray (Exit.then (fun a' w' => ((past || i == k) = true ∨ S w') ∧ wpPlanK P l Q k S n r (past || i == k) a' w') Q) [o] a w):wpPlanK P l Q k S n ((i,2) :: r) past a w:=by
 show wpOp P l.toArray Q i _ a w
 have ho':l.toArray[i]? = some o:=by simpa using ho
 unfold wpOp
 simp only [ho']
 unfold wpList at h
 split
 · rename_i hw
   rw [if_pos hw] at h
   refine h.imp (fun h => ?_) id
   unfold Oper.wp at h ⊢
   generalize (execOp a.eval o).run P w = r at h ⊢
   cases r with
   | ok nx w' =>
    cases nx <;> simp only [Oper.upon,wpList,Exit.then] at h ⊢ <;>
     first
      | exact h
      | exact Calls.mono h (fun e w'' he => by cases e <;> exact he)
   | halt x w' => cases x <;> simp only [Oper.upon,Exit.then] at h ⊢ <;> exact h
 rename_i hw
 rw [if_neg hw] at h
 exact h
theorem planK_load {l:List Oper} {n i:Nat} {past:Bool} {r:List (Nat × Nat)} {a:Act} {w:World} {o:Oper} (ho:l[i]? = some o) (hw:Region.wanted o (yielded l.toArray a.tmps) = true) (ty:TypeId) (x:Operand) (hop:o.op = .load ty x) (g off m:Nat) (hx:a.eval x = .pointer (some ⟨g,off,none⟩))
 {t:TypeId} {cur:Array Value} {fr:Nat × Nat} {d:TypeDesc} (hg:∀ w0,S w0 → w0.heap[g]? = some (.cells cur t fr)) (hu:P.underlying ty = some d) (hd:d.isRow = true) (hi:(P.info? ty).map (·.size) = some m) (hfit:off + m ≤ cur.size) (cs:Array Value) (hv:cur.extract off (off + m) = cs)
 (h:wpPlanK P l Q k S n r past (a.put o.dst (.agg cs)) w):wpPlanK P l Q k S n ((i,1) :: r) past a w :=
 planK_see ho hw (fun w0 hS => by
  unfold execOp
  simp only [hop,hx,Instr.loadAt,Instr.sureAddr,Sem.run_bind,Sem.run_pure,Result.andThen_ok,run_load_part w0 (hg w0 hS) hu hd hi hfit,hv]) h
theorem planK_end {l:List Oper} {n:Nat} {past:Bool} {a:Act} {w:World} (h:wpList P l.toArray Q (l.drop n) a w):wpPlanK P l Q k S n [] past a w:=h
end
end Go.Proofs.YtmeglndnkdgkoaaGreat
namespace Go.Proofs.YtmeglndnkdgkoaaGreat.Law9
open Go.RowKit Go.Proofs.YtmeglndnkdgkoaaGreat.ShaW Go.Proofs.YtmeglndnkdgkoaaGreat.Path Go.Proofs.YtmeglndnkdgkoaaGreat.Store
def pick (x:Int) (n:Nat):Int:=if Int.tmod x n < 0 then Int.tmod x n + n else Int.tmod x n
def AtOk (out:List Pr) (key:List UInt8) (j:Nat) (x:Int):Prop:=(x = -1 ∧ ∀ i q,i < j → out[i]? = some q → q.key ≠ key) ∨ ∃ (i:Nat) (q:Pr),i < j ∧ x = (i:Int) ∧ out[i]? = some q ∧ q.key = key
theorem pair_parts {cur:Array Value} {o:Nat} {x:Pr} (hk:x.key.length = 32) (h:cur.extract o (o + 33) = x.cells):cur.extract o (o + 32) = brow x.key ∧ cur[o + 32]? = some x.vv:=by
 have hs:=Pr.size hk
 have h':cur.extract o (o + x.cells.size) = x.cells:=by rw [hs]; exact h
 exact ⟨extract_part h' (by rw [hs]; omega) (Pr.at_key hk),extract_get h' (Pr.at_val hk)⟩
def IntsAt (w:World) (ao:Option Addr) (len:Nat):Prop := ∀ i,i < len → ∃ (g off:Nat) (x:Int),ao = some ⟨g,off,none⟩ ∧ w.cell? ⟨g,off + i,none⟩ = some (.int .i64 x) ∧ (Lit.int .i64 x).wf = true ∧ g < w.heap.size
end Go.Proofs.YtmeglndnkdgkoaaGreat.Law9
namespace Go.Proofs.YtmeglndnkdgkoaaGreat.Store
open Go.RowKit Go.Sort Go.Proofs.YtmeglndnkdgkoaaGreat.ShaW Go.Proofs.YtmeglndnkdgkoaaGreat.Path Go.Proofs.YtmeglndnkdgkoaaGreat.Law9
def Tr.some (t:Tr) (key:List UInt8) (most:Int):Ents:=if most < 0 then t.from key else (t.from key).take most.toNat
def fromsP (key:List UInt8) (ps:List (Int × Tr)):Ents:=ps.flatMap fun p => p.2.from key
def steps (ps:List (Int × Tr)):Nat:=(ps.map fun p => 2 * p.2.nodes + 1).sum
def Deep (f:View):List (Int × Tr) → Prop
 | [] => True
 | p :: rest => (∃ d,rest.length ≤ d ∧ d ≤ 256 ∧ Rep f p.1 d p.2) ∧ Deep f rest
def Parted (out:List Pr):Prop:=out.Pairwise fun x y => ∀ k,x.vv.ownBlock = some k → y.vv.ownBlock ≠ some k
structure Told (base:Nat) (w:World) (v:Value) (out:List Pr):Prop where
 row:RowP w base v out
 vals:∀ x ∈ out,x.key.length = 32 ∧ Bytes w x.vv x.val ∧ ∀ k,x.vv.ownBlock = some k → base ≤ k ∧ k < w.heap.size ∧ v.ownBlock ≠ some k
 apart:Parted out
structure SomeSt (base:Nat) (wb wr:World) (v9 v10:Value) (out:List Pr) (st:List Int):Prop where
 told:Told base wr v9 out
 pile:wr.ownsRow base 3 1 v10 st.length (il st.reverse)
 one:∀ k,v10.ownBlock = some k → v9.ownBlock ≠ some k ∧ ∀ x ∈ out,x.vv.ownBlock ≠ some k
 world:Adds wb wr
theorem pair_built (T:Array Value) (ao:Option Addr) (n c:Nat) (hT:T.size = 32):Tryz.prog.built 159 [(0,.agg T),(1,.slice ao n c)] = some (T ++ #[.slice ao n c]):=by
 obtain ⟨i,h1,h2,h3,h4⟩:=info_parts (P:=Tryz.prog) (e:=159) (z:=.agg (List.replicate 32 (Value.int .u8 0) ++ [Value.slice none 0 0]).toArray) (size:=33) (bytes:=56) (by kernel_rfl)
 exact built_pair h1 h2 Tryz.underlying159 (by kernel_rfl) (by rfl) (.agg T) (.slice ao n c) hT rfl
section
variable {w : World} {s : Nat} {F : Nat → Prop} {σ : SlabSt Nd} {root : Int} {t : Tr}
def zPair:Array Value:=(List.replicate 32 (Value.int .u8 0) ++ [Value.slice none 0 0]).toArray
end
def Tr.upTo (t:Tr) (b:List UInt8):Nat:=if (nextK b).2 = true then t.rank (nextK b).1 else t.leaves
def Tr.between (t:Tr) (a b:List UInt8):Int:=if Lib.compareBytes b a < 0 then 0 else (t.upTo b:Int) - (t.rank a:Int)

end Go.Proofs.YtmeglndnkdgkoaaGreat.Store
namespace Go.Proofs.YtmeglndnkdgkoaaGreat.Store
open Go.RowKit Go.Proofs.YtmeglndnkdgkoaaGreat.ShaW Go.Proofs.YtmeglndnkdgkoaaGreat.Path
theorem Rnew_ok (n:Int) (w:World) (h1:1 ≤ n) (h2:n ≤ 65536) :
 Calls Tryz.prog 16 #[.int .i64 n] w fun e w' => ∃ b F,e = .returned (.tuple #[.pointer (some ⟨b,0,none⟩),.int .i64 0]) ∧ RAt w' b F ⟨n.toNat,[],[]⟩ ∧ (∀ k,F k → w.heap.size ≤ k) ∧ Adds w w':=by
 have hr:RAt (w.alloc (.cells #[.bool true,.int .i64 n,.slice none 0 0,.slice none 0 0] 126)) w.heap.size (fun k => k = w.heap.size) ⟨n.toNat,[],[]⟩:=by
  refine ⟨⟨by show 1 ≤ n.toNat ∧ n.toNat ≤ 65536; omega,Nat.zero_le _,fun n hn => (by cases hn),Nat.le_refl _,fun x hx => (by cases hx)⟩,.slice none 0 0,.slice none 0 0,?_,World.ownsRow_nil ..,World.ownsRow_nil ..,fun x hx => (by cases hx),rfl,fun k hk => (by cases hk),fun k hk => (by cases hk),fun k hk => ?_⟩
  · have:=heap_alloc_new w (.cells #[.bool true,.int .i64 n,.slice none 0 0,.slice none 0 0] 126)
    rw [show ((⟨n.toNat,[],[]⟩:Rs).space:Int) = n by show ((n.toNat:Nat):Int) = n; omega]
    exact this
  subst hk; simp
 have HR:=Lib.hid hr
 clear hr
 have hbt:Tryz.prog.built 126 [(0,.bool true),(1,.int .i64 n)] = some #[.bool true,.int .i64 n,.slice none 0 0,.slice none 0 0]:=by kernel_rfl
 have d1:decide (n < 1) = false:=decide_eq_false (by omega)
 have d2:decide ((65536:Int) < n) = false:=decide_eq_false (by omega)
 go_enter Tryz.func16,Tryz.ntmps16
 go_wp2
 go_ret2
 exact ⟨_,_,rfl,HR.out,fun k hk => by rw [hk]; exact Nat.le_refl _,(Ch.refl _ _).alloc _⟩
theorem spot_fields:∃ i fs,Tryz.prog.info? 198 = some i ∧ i.zero = some (.agg Sp.zero.cells) ∧ Tryz.prog.underlying 198 = some (.struct fs) ∧
 fs.toList.mapM (fun f => (Tryz.prog.info? f.type).map fun i => (f.offset,i.size)) = some [(0,1),(1,1),(2,33),(35,1),(36,1),(37,1),(38,1)]:=by
 obtain ⟨i,hi⟩:∃ i,Tryz.prog.info? 198 = some i:=Option.isSome_iff_exists.1 (by kernel_rfl)
 have hz:(Tryz.prog.info? 198).bind (·.zero) = some (.agg Sp.zero.cells):=by kernel_rfl
 rw [hi] at hz
 exact ⟨i,_,hi,hz,Tryz.underlying198,by kernel_rfl⟩
def Sp.leaf (K:List UInt8) (v:Value) (bs:List UInt8):Sp:=⟨1,0,K,v,bs,0,0,0,0⟩
def Sp.inner (d l r:Int):Sp:=⟨2,d,Nd.z32,.slice none 0 0,[],l,r,0,0⟩
theorem built_sp_leaf (K:List UInt8) (hK:K.length = 32) (ao:Option Addr) (n c:Nat) (bs:List UInt8) :
 Tryz.prog.built 198 [(0,.int .u8 1),(2,.agg (brow K ++ #[.slice ao n c]))] = some (Sp.leaf K (.slice ao n c) bs).cells:=by
 obtain ⟨i,fs,h1,h2,h3,h4⟩:=spot_fields
 unfold Program.built
 rw [h1,h3]
 simp only [h2,h4]
 show Instr.fill _ Sp.zero.cells _ = _
 rw [fill_step (off:=0) (size:=1) rfl rfl (by rw [Sp.cells_size Sp.zero_ok]; omega)]
 rw [fill_step (off:=2) (size:=33) rfl (by simp [Value.cells,brow_size,hK]) (by simp [splice,Sp.cells_size Sp.zero_ok,Value.cells])]
 show some _ = some _
 congr 1
 apply Array.ext'
 have e:(Value.agg (brow K ++ #[.slice ao n c])).cells.toList = K.map bv ++ [.slice ao n c]:=by simp [Value.cells,brow]
 rw [e]
 show (splice (splice Sp.zero.cells.toList 0 [Value.int .u8 1]) 2 (K.map bv ++ [.slice ao n c])) = _
 rw [Sp.cells_list]
 unfold splice
 rw [show 2 + (K.map bv ++ [Value.slice ao n c]).length = 35 by simp [hK]]
 show [Value.int .u8 1,.int .i64 0] ++ (K.map bv ++ [.slice ao n c]) ++ [Value.int .i64 0,.int .i64 0,.int .i64 0,.int .i64 0] = _
 simp [Sp.leaf,Sp.cells]
theorem built_sp_inner (d l r:Int):Tryz.prog.built 198 [(0,.int .u8 2),(1,.int .i64 d),(3,.int .i64 l),(4,.int .i64 r)] = some (Sp.inner d l r).cells:=by
 kernel_rfl
section
variable {w w' : World} {b : Nat} {F : Nat → Prop} {ρ : Rs} {σ : SlabSt Nd}
theorem RLeaf_bad (h:RAt w b F ρ) (key:Array Value) {vv:Value} {bs:List UInt8} (hb:Bytes w vv bs) {c:Int} (hc:(1024 < bs.length ∧ c = 4) ∨ (bs.length ≤ 1024 ∧ ρ.fullB = true ∧ c = 9)) :
 Calls Tryz.prog 62 #[.pointer (some ⟨b,0,none⟩),.agg key,vv] w fun e w' => e = .returned (.tuple #[.int .i64 0,.int .i64 c]) ∧ Adds w w':=by
 have a0:Adds w (w.alloc (.cells key 31)):=(Ch.refl _ w).alloc _
 have HN:=Lib.hid (RNone_no (h.adds a0))
 have hfu:=Rfull_ok (h.adds a0)
 obtain ⟨ao,cap,rfl,_⟩:=hb.form
 obtain ⟨n,hn⟩:∃ n,n = bs.length:=⟨_,rfl⟩
 rw [← hn] at hc ⊢
 rcases hc with ⟨h1,rfl⟩ | ⟨h1,h2,rfl⟩
 · have d1:decide ((1024:Int) < (n:Int)) = true:=decide_eq_true (by omega)
   clear hfu hb hn h1 h a0
   go_enter Tryz.func62,Tryz.ntmps62
   go_wp2_with fail
   refine HN.out.mono ?_; rintro e w1 ⟨rfl,rfl⟩
   go_wp2
   go_ret2
   exact ⟨rfl,(Ch.refl _ _).alloc _⟩
 have d1:decide ((1024:Int) < (n:Int)) = false:=decide_eq_false (by omega)
 rw [h2] at hfu
 have HF:=Lib.hid hfu
 clear hfu hb hn h1 h2 h a0
 go_enter Tryz.func62,Tryz.ntmps62
 go_wp2_with fail
 refine HN.out.mono ?_; rintro e w1 ⟨rfl,rfl⟩
 go_wp2_with fail
 refine HF.out.mono ?_; rintro e w1 ⟨rfl,a1⟩
 have A1:=Lib.hid a1
 clear a1
 go_wp2
 go_ret2
 exact ⟨rfl,((Ch.refl (fun _ => False) w).alloc _).trans A1.out (fun _ => fEq)⟩
theorem RLeaf_good (h:RAt w b F ρ) (key:List UInt8) (hk:key.length = 32) {vv:Value} {bs:List UInt8} (hb:Bytes w vv bs) (hl:bs.length ≤ 1024) (hfull:ρ.fullB = false) :
 Calls Tryz.prog 62 #[.pointer (some ⟨b,0,none⟩),.agg (brow key),vv] w fun e w' => ∃ v',e = .returned (.tuple #[.int .i64 (ρ.take (Sp.leaf key v' bs)).1,.int .i64 0]) ∧ RMoved w w' b F (ρ.take (Sp.leaf key v' bs)).2:=by
 obtain ⟨K,hK⟩:∃ K,K = brow key:=⟨_,rfl⟩
 have hKs:K.size = 32:=by rw [hK,brow_size,hk]
 have a0:Adds w (w.alloc (.cells K 31)):=(Ch.refl _ w).alloc _
 have HN:=Lib.hid (RNone_no (h.adds a0))
 have hfu:=Rfull_ok (h.adds a0)
 rw [hfull] at hfu
 have HF:=Lib.hid hfu
 have hbw:=hb
 obtain ⟨ao,cap,rfl,_⟩:=hb.form
 obtain ⟨n,hn⟩:∃ n,n = bs.length:=⟨_,rfl⟩
 rw [← hn] at hbw ⊢
 have d1:decide ((1024:Int) < (n:Int)) = false:=decide_eq_false (by omega)
 obtain ⟨i0,p1,p2,p3,p4⟩:=info8
 have HI:=(hIq p1 (aIq p2 (aIq p3 p4)))
 have HKK:=(hIq hKs (aIq hK hk))
 have HB:=(hIq hbw (aIq hl hn))
 have HR:=(hIq h hfull)
 rw [← hK]
 clear hK hKs a0 hfu hb hbw hn hl p1 p2 p3 p4 hk h hfull
 go_enter Tryz.func62,Tryz.ntmps62
 go_wp2_with fail
 refine HN.out.mono ?_; rintro e w1 ⟨rfl,rfl⟩
 go_wp2_with fail
 refine HF.out.mono ?_; rintro e w2 ⟨rfl,a2⟩
 have A2:=(hIq (((Ch.refl (fun _ => False) w).alloc (.cells K 31)).trans a2 (fun _ => fEq)) (a2.row (heap_alloc_new w (.cells K 31)) id))
 clear a2 HN HF
 go_wp2
 refine wp_region_plan (fun wz => wz.heap[w.heap.size]? = some (.cells K 31 (0,0))) 10 [(0,false),(1,false),(2,false),(3,false),(4,true),(5,false),(6,false),(7,true),(8,false),(9,false)] (by kernel_rfl) (by kernel_rfl) ?_ ?_
 · exact row_drew A2.out.2
 refine plan_look rfl rfl (fun w0 hS => (by clear hS; go_simp; try rfl)) ?_
 simp only [Act.put,nAq,nBq,nCq]
 refine plan_load_part (cur:=K) (t:=31) (fr:=(0,0)) rfl rfl 31 _ rfl w.heap.size 0 32 rfl (fun w0 hS => hS) Tryz.underlying31 rfl sizeP (by rw [HKK.out.1]; omega) K (by have:=HKK.out.1; simp [← this]) ?_
 simp only [Act.put,nAq,nBq,nCq]
 iterate 2
  refine plan_look rfl rfl (fun w0 hS => (by clear hS; go_simp; try rfl)) ?_
  simp only [Act.put,nAq,nBq,nCq]
 refine plan_do rfl ?_
 have a2d:Adds w w2.drew:=A2.out.1.trans (Ch.refl (fun _ => False) w2).drew (fun _ => fEq)
 refine wpList_append_copy rfl _ _ 32 rfl 5 i0 Tryz.underlying32 HI.out.1 HI.out.2.1 HI.out.2.2.1 HI.out.2.2.2 rfl _ rfl bs (HB.out.1.keep a2d (fun _ _ h => h)) (by have:=HB.out.2.1; omega) ?_
 intro v' w4 hb4 hk4 hc4
 obtain ⟨av,cv,rfl,_⟩:=hb4.form
 have A4:=(hIq (a2d.trans hc4 (fun _ => fEq)) (aIq (hc4.row (row_drew A2.out.2) id) (aIq hb4 hk4)))
 clear hb4 hk4 hc4 a2d
 refine wpList_nil ?_
 change _ ∧ _
 refine ⟨A4.out.2.1,?_⟩
 simp only [Act.put,nAq,nBq,nCq]
 have hbt:=built_sp_leaf key HKK.out.2.2 av bs.length cv bs
 rw [← HKK.out.2.1] at hbt
 obtain ⟨E,hE⟩:∃ E,E = K ++ #[Value.slice av bs.length cv]:=⟨_,rfl⟩
 have hpt:=pair_built K av bs.length cv HKK.out.1
 rw [← hE] at hbt hpt
 obtain ⟨N,hN⟩:∃ N,N = (Sp.leaf key (.slice av bs.length cv) bs).cells:=⟨_,rfl⟩
 rw [← hN] at hbt
 refine plan_build_two rfl rfl 159 0 1 (.tmp 17) (.tmp 20) rfl (.agg K) (.slice av bs.length cv) rfl rfl _ hpt ?_
 simp only [Act.put,nAq,nBq,nCq]
 refine plan_build_two rfl rfl 198 0 2 (.const (.int .u8 1)) (.tmp 21) rfl (.int .u8 1) (.agg E) rfl rfl _ hbt ?_
 simp only [Act.put,nAq,nBq,nCq]
 have htk:=RTake_ok (HR.out.1.adds A4.out.1) (Sp.leaf key (.slice av bs.length cv) bs) ⟨HKK.out.2.2,⟨_,_,_,rfl⟩,HB.out.2.1⟩ ⟨by show (0:Int) ≤ 0; decide,by show (0:Int) ≤ 2147483648; decide⟩ A4.out.2.2.1 (fun j hj => by
  obtain ⟨q1,q2⟩:=A4.out.2.2.2 j hj
  refine ⟨fun hf => ?_,q2⟩
  obtain ⟨_,_,_,_,_,_,_,_,_,_,h8⟩:=HR.out.1
  have:=h8 j hf
  have h9:=A2.out.1.size
  have h10:w2.drew.heap.size = w2.heap.size:=rfl
  omega) HR.out.2
 rw [← hN] at htk
 have HTK:=Lib.hid htk
 clear htk hbt hpt hE hN
 refine plan_do rfl ?_
 go_wp2_with fail
 refine HTK.out.mono ?_; rintro e w5 ⟨rfl,hm⟩
 have hB5:w5.heap[w.heap.size]? = some (.cells K 31 (0,0)):=by
  obtain ⟨F',g1,g2,g3⟩:=hm
  refine g2.row A4.out.2.1 (fun hf => ?_)
  rcases hf with hf | hf
  · obtain ⟨_,_,_,_,_,_,_,_,_,_,h8⟩:=HR.out.1
    have:=h8 _ hf
    omega
  have h1:=(A4.out.2.2.2 _ hf).1
  have h9:=row_lt A2.out.2
  have h10:w2.drew.heap.size = w2.heap.size:=rfl
  omega
 have hm':RMoved w w5 b F (ρ.take (Sp.leaf key (.slice av bs.length cv) bs)).2:=by
  obtain ⟨F',g1,g2,g3⟩:=hm
  have hnew:∀ j,(Sp.leaf key (.slice av bs.length cv) bs).addr.ownBlock = some j → w.heap.size ≤ j:=fun j hj => by
   have h1:=(A4.out.2.2.2 j hj).1
   have h9:=A2.out.1.size
   have h10:w2.drew.heap.size = w2.heap.size:=rfl
   omega
  refine ⟨F',g1,(A4.out.1.mono (G:=F) (fun _ _ h => h.elim)).trans g2 (fun j hj => hj.imp id (hnew j)),fun j hj => ?_⟩
  rcases g3 j hj with (h | h) | h
  · exact .inl h
  · exact .inr (hnew j h)
  exact .inr (Nat.le_trans A4.out.1.size h)
 have H5:=Lib.hid hm'
 clear hm hm' HTK
 dsimp only
 go_step
 refine wpList_nil ?_
 change _ ∧ _
 refine ⟨hB5,?_⟩
 clear hB5
 iterate 2
  refine plan_look rfl rfl (fun w0 hS => (by clear hS; go_simp; try rfl)) ?_
  simp only [Act.put,nAq,nBq,nCq]
 refine plan_end ?_; simp only [List.drop_succ_cons,List.drop_zero]
 go_wp2
 refine NoPanic.normal ?_
 go_wp2
 go_ret2
 exact ⟨_,rfl,H5.out⟩
theorem RLeaf_ok (h:RAt w b F ρ) (L:Lk σ ρ) (G:Good σ) (key:List UInt8) (hk:key.length = 32) {vv:Value} {bs:List UInt8} (hb:Bytes w vv bs) (v:Value) :
 Calls Tryz.prog 62 #[.pointer (some ⟨b,0,none⟩),.agg (brow key),vv] w fun e w' => e = .returned (.tuple #[.int .i64 (leafS σ key bs v).1,.int .i64 (leafS σ key bs v).2.1]) ∧ ∃ ρ',Lk (leafS σ key bs v).2.2 ρ' ∧ RMoved w w' b F ρ':=by
 unfold leafS
 by_cases h1:1024 < bs.length
 · rw [if_pos h1]
   exact (RLeaf_bad h (brow key) hb (.inl ⟨h1,rfl⟩)).mono fun e w' ⟨he,a⟩ => ⟨he,ρ,L,RMoved.same h a⟩
 rw [if_neg h1]
 have hf:=L.full G.sound.wf
 by_cases hu:σ.used = σ.room
 · rw [decide_eq_true hu] at hf
   have ht:σ.take (Nd.leaf (Tag.leafD key (Tag.valueD bs)) key (Tag.valueD bs) bs v) = (0,9,σ):=by unfold SlabSt.take; rw [if_pos hu]
   rw [ht]
   exact (RLeaf_bad h (brow key) hb (.inr ⟨by omega,hf,rfl⟩)).mono fun e w' ⟨he,a⟩ => ⟨he,ρ,L,RMoved.same h a⟩
 rw [decide_eq_false hu] at hf
 refine (RLeaf_good h key hk hb (by omega) hf).mono ?_
 rintro e w' ⟨v',rfl,hm⟩
 obtain ⟨t1,t2,t3⟩:=L.take G.sound.wf (n:=Nd.leaf (Tag.leafD key (Tag.valueD bs)) key (Tag.valueD bs) bs v) (x:=Sp.leaf key v' bs) (.inr ⟨by simp,rfl,rfl,rfl,rfl,fun _ => rfl,fun h => (by cases h),rfl,rfl⟩) hu
 exact ⟨by rw [t1,t2],_,t3,hm⟩
end
section
variable {w w' : World} {b : Nat} {F : Nat → Prop} {ρ : Rs} {σ : SlabSt Nd}
theorem get_of_has {n:Int} (hh:Store.has σ n = true):∃ s,σ.get? n = some s:=by
 unfold Store.has at hh
 cases hx:σ.get? n with
 | none => rw [hx] at hh; cases hh
 | some x => exact ⟨x,rfl⟩
theorem bump_slots {m:Nat} {s:Nd × Nat} (hs:σ.slots[m]? = some s) (h0:s.2 ≠ 0) (d:Int):bump σ ((m:Int) + 1) d = { σ with slots:=σ.slots.set m (withHeld s.1 (wrap64 (s.1.held + d)),s.2) }:=by
 have hx:=SlabSt.get?_of hs h0
 unfold Store.bump
 rw [if_pos (has_some hx),nd_some hx]
 unfold SlabSt.set
 rw [hx]
 simp only [SlabSt.setAt]
 rw [show ((m:Int) + 1 - 1).toNat = m by omega]
theorem hold_slots {m:Nat} {s:Nd × Nat} (hs:σ.slots[m]? = some s) (h0:s.2 ≠ 0) (h1:s.2 ≠ 1073741824):holdS σ ((m:Int) + 1) = (0, { σ with slots:=σ.slots.set m (withHeld s.1 (wrap64 (s.1.held + 1)),s.2 + 1) }):=by
 have hx:=SlabSt.get?_of hs h0
 have hlt:=(List.getElem?_eq_some_iff.1 hs).1
 have e:σ.hold ((m:Int) + 1) = (0, { σ with slots:=σ.slots.set m (s.1,s.2 + 1) }):=by
  unfold SlabSt.hold
  rw [hx]
  simp only
  rw [if_neg h1]
  simp only [SlabSt.setAt]
  rw [show ((m:Int) + 1 - 1).toNat = m by omega]
 unfold holdS
 rw [e,if_pos rfl,bump_slots (s:=(s.1,s.2 + 1)) (by rw [List.getElem?_set_self hlt]) (by simp)]
 simp
theorem Sound.held_le (hs:Sound σ []) {n:Int} {s:Nd × Nat} (hx:σ.get? n = some s):0 ≤ s.1.held ∧ s.1.held ≤ (s.2:Int) ∧ s.2 ≤ 1073741824:=by
 have h1:=hs.counts n s hx
 have h2:=hs.held n s hx
 obtain ⟨m,_,hm,_,_⟩:=SlabSt.get?_some hx
 have h3:=hs.wf.counts s (List.mem_of_getElem? hm)
 simp only [List.count_nil] at h1
 omega
theorem RHold_lk (h:RAt w b F ρ) (L:Lk σ ρ) (G:Good σ) (n:Int) :
 Calls Tryz.prog 66 #[.pointer (some ⟨b,0,none⟩),.int .i64 n] w fun e w' => e = .returned (.int .i64 (holdS σ n).1) ∧ ∃ ρ',Lk (holdS σ n).2 ρ' ∧ RMoved w w' b F ρ':=by
 refine (RHold_ok h n).mono ?_
 rintro e w' ⟨rfl,hm⟩
 cases hs:σ.get? n with
 | none =>
  have h1:ρ.holdErr n = 7:=by unfold Rs.holdErr; rw [L.has G,has_none hs,if_pos rfl]
  have h2:holdS σ n = (7,σ):=by unfold holdS SlabSt.hold; rw [hs]; rfl
  rw [h1,if_neg (by omega)] at hm
  rw [h1,h2]
  exact ⟨rfl,ρ,L,hm⟩
 | some s =>
  obtain ⟨m,x,rfl,hlt,hsm,hx,h0,hsp,hk,hk0,hle,hri,hv,hkey,hd,ho,hos⟩:=L.some G hs
  obtain ⟨b1,b2,b3⟩:=G.sound.held_le hs
  have hh:ρ.has ((m:Int) + 1) = true:=by rw [L.has G,has_some hs]
  by_cases hmax:s.2 = 1073741824
  · have h1:ρ.holdErr ((m:Int) + 1) = 4:=by unfold Rs.holdErr; rw [hh,if_neg (by simp),hsp,if_pos (by omega)]
    have h2:holdS σ ((m:Int) + 1) = (4,σ):=by unfold holdS SlabSt.hold; rw [hs]; simp [hmax]
    rw [h1,if_neg (by omega)] at hm
    rw [h1,h2]
    exact ⟨rfl,ρ,L,hm⟩
  have h1:ρ.holdErr ((m:Int) + 1) = 0:=by unfold Rs.holdErr; rw [hh,if_neg (by simp),hsp,if_neg (by omega)]
  rw [h1,if_pos rfl,Rs.bumpOwn_at hx] at hm
  rw [h1,hold_slots hsm h0 hmax]
  refine ⟨rfl,_,?_,hm⟩
  refine L.set (.inr ⟨by simp,hk,hle,hri,hv,hkey,hd,?_,?_⟩)
  · show x.own + 1 = wrap64 (s.1.held + 1)
    unfold wrap64; omega
  show x.own + 1 + x.sides = ((s.2 + 1:Nat):Int)
  omega
def Rs.overN (ρ:Rs) (n:Int):Rs:=match ρ.spots[(n - 1).toNat]? with
 | some x => if n = 0 then ρ else ρ.setAt (n - 1).toNat x.over
 | none => ρ
theorem Rs.overN_at {ρ:Rs} {m:Nat} {x:Sp} (hx:ρ.spots[m]? = some x):ρ.overN ((m:Int) + 1) = ρ.setAt m x.over:=by
 unfold Rs.overN
 rw [show ((m:Int) + 1 - 1).toNat = m by omega,hx]
 simp only
 rw [if_neg (by omega)]
theorem Rs.overN_zero (ρ:Rs):ρ.overN 0 = ρ:=by
 unfold Rs.overN
 split
 · rw [if_pos rfl]
 rfl
end
theorem Rep.many {f:View} (hf:Fit f) {h:Int} {d:Nat} {t:Tr} (hr:Rep f h d t):(h ≠ 0 → 1 ≤ t.ents.length) ∧ (t.isNode = true → 2 ≤ t.ents.length) ∧ (∀ n,f h = some n → (t.isNode = true ↔ n.kind = 2)):=by
 induction hr with
 | nil => exact ⟨fun h => absurd rfl h,fun h => (by cases h),fun n hn => (by rw [hf.zero] at hn; cases hn)⟩
 | leaf hn hk => exact ⟨fun _ => Nat.le_refl _,fun h => (by cases h),fun n hn' => (by rw [hn] at hn'; cases hn'; exact ⟨fun h => (by cases h),fun h => (by omega)⟩)⟩
 | @node h d n l r hn hk hd hl hr ihl ihr =>
  have hi:=hf.inner hn hk
  have h2:2 ≤ (l.ents ++ r.ents).length:=by
   rw [List.length_append]
   by_cases h0:n.left = 0
   · obtain ⟨hr0,hk2⟩:=fits_lone_r hi.fits h0
     obtain ⟨y,hy⟩:=hi.right.resolve_left hr0
     rw [ndF_some hy] at hk2
     have:=ihr.2.1 ((ihr.2.2 y hy).2 hk2)
     omega
   by_cases h1:n.right = 0
   · obtain ⟨hl0,hk2⟩:=fits_lone_l hi.fits h1
     obtain ⟨y,hy⟩:=hi.left.resolve_left hl0
     rw [ndF_some hy] at hk2
     have:=ihl.2.1 ((ihl.2.2 y hy).2 hk2)
     omega
   have:=ihl.1 h0
   have:=ihr.1 h1
   omega
  exact ⟨fun _ => Nat.le_trans (by decide) h2,fun _ => h2,fun m hm => (by rw [hn] at hm; cases hm; exact ⟨fun _ => hk,fun _ => rfl⟩)⟩
theorem Rep.canon {f:View} (hf:Fit f) {h:Int} {d:Nat} {t:Tr} (hr:Rep f h d t):∀ m,d + m = 256 → t = tree m t.ents:=by
 induction hr with
 | nil => intro m _; exact (tree_nil m).symm
 | @leaf h d n hn hk => intro m _; exact (tree_one m (n.key,n.value)).symm
 | @node h d n l r hn hk hd hl hr ihl ihr =>
  intro m hm
  have h2:=(Rep.many hf (Rep.node hn hk hd hl hr)).2.1 rfl
  have hd1:=(hf.inner hn hk).d1
  obtain ⟨m,rfl⟩:∃ m',m = m' + 1:=⟨m - 1,by omega⟩
  obtain ⟨s0,s1⟩:=Rep.sides hf hn hk hd hl hr
  rw [tree_two h2]
  have e0:sideE 0 (255 - m) (Tr.node l r).ents = l.ents:=by
   show (l.ents ++ r.ents).filter _ = _
   rw [List.filter_append,show 255 - m = d by omega,List.filter_eq_self.2 (fun e he => by rw [(s0 e he).2]; rfl),List.filter_eq_nil_iff.2 (fun e he => by rw [(s1 e he).2]; decide),List.append_nil]
  have e1:sideE 1 (255 - m) (Tr.node l r).ents = r.ents:=by
   show (l.ents ++ r.ents).filter _ = _
   rw [List.filter_append,show 255 - m = d by omega,List.filter_eq_nil_iff.2 (fun e he => by rw [(s0 e he).2]; decide),List.filter_eq_self.2 (fun e he => by rw [(s1 e he).2]; rfl),List.nil_append]
  rw [e0,e1, ← ihl m (by omega), ← ihr m (by omega)]
theorem Rep.fine {f:View} (hf:Fit f) {h:Int} {d:Nat} {t:Tr} (hr:Rep f h d t):(keysOf t.ents).Nodup ∧ Rising t.ents ∧ ∃ k,t.ents.Ok k d:=by
 obtain ⟨h1,h2,h3⟩:=hr.ents hf
 have hnd:(keysOf t.ents).Nodup:=by
  unfold keysOf
  rw [List.Nodup,List.pairwise_map]
  refine h3.imp ?_
  intro a b hab e
  unfold Ltk at hab
  rw [e,cmp_self] at hab
  omega
 refine ⟨hnd,?_,?_⟩
 · unfold Rising
   refine h3.imp ?_
   intro a b hab hba
   have:=cmp_lt_trans _ _ _ hab hba
   rw [cmp_self] at this
   omega
 rcases hr.live with h0 | ⟨n,hn⟩
 · subst h0
   rw [hr.zero_nil hf.zero]
   exact ⟨[],List.nodup_nil,fun p hp => (by cases hp),fun p hp => (by cases hp)⟩
 refine ⟨n.key,hnd,fun p hp => (h1 p hp).1,fun p hp => ?_⟩
 by_cases hk:n.kind = 2
 · exact (h2 n hn p hp).1 hk
 rw [(h2 n hn p hp).2 hk]
 exact fun _ _ => rfl
end Go.Proofs.YtmeglndnkdgkoaaGreat.Store
