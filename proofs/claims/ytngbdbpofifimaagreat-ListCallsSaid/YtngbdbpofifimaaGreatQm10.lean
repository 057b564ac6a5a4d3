/- Laws of the layers below. -/
import Derived.Test.YtngbdbpofifimaaGreatQm9
set_option maxHeartbeats 3200000
set_option maxRecDepth 100000
set_option linter.unusedVariables false
namespace Go.Proofs.YtngbdbpofifimaaGreat.Store
open Go.RowKit Go.Proofs.YtngbdbpofifimaaGreat.ShaW Go.Proofs.YtngbdbpofifimaaGreat.Path
def total (σ:AG Nd):Nat:=(σ.slots.map (·.2)).sum
def live (σ:AG Nd):Nat:=σ.slots.countP (fun s=>s.2 != 0)
theorem Fc:∀(l:List Nat) (m x y:Nat),l[m]?=some x→(l.set m y).sum+x=l.sum+y
 | [],m,x,y,h=>by simp at h
 | a::l,0,x,y,h=>by simp at h;subst h;simp;omega
 | a::l,m+1,x,y,h=>by
  have:=Fc l m x y (by simpa using h);simp only[List.set_cons_succ,List.sum_cons];omega
theorem countP_set {α:Type} (p:α→Bool):∀(l:List α) (m:Nat) (x y:α),l[m]?=some x→(l.set m y).countP p+(if p x then 1 else 0)=l.countP p+(if p y then 1 else 0)
 | [],m,x,y,h=>by simp at h
 | a::l,0,x,y,h=>by simp at h;subst h;simp only[List.set_cons_zero,List.countP_cons];omega
 | a::l,m+1,x,y,h=>by
  have:=countP_set p l m x y (by simpa using h);simp only[List.set_cons_succ,List.countP_cons];omega
theorem Un (σ:AG Nd):live σ≤σ.slots.length:=List.countP_le_length
theorem Cl {σ:AG Nd} {h:Int} {x:Nd×Nat} (hx:σ.get? h=some x):total (σ.drop Nd.zero h).2.2+1=total σ:=by
 obtain⟨m,rfl,hs,h0,hl⟩:=AG.Ac hx;have hs':(σ.slots.map (·.2))[m]?=some x.2:=by simp[hs]
 unfold AG.drop total;rw[hx];simp only[AG.setAt,show((m:Int)+1-1).toNat=m by omega];split
 · have:=Fc _ m x.2 0 hs'
   simp only[List.map_set];omega
 have:=Fc _ m x.2 (x.2-1) hs';simp only[List.map_set];omega
theorem Ek {σ:AG Nd} {h:Int} (hx:σ.get? h=none):σ.drop Nd.zero h=(false,7,σ):=by unfold AG.drop;rw[hx]
theorem Eg {σ:AG Nd} {h:Int} (hd:(σ.drop Nd.zero h).1=true):∃x,σ.get? h=some x∧x.2=1:=by
 unfold AG.drop at hd;cases hx:σ.get? h with
 | none=>rw[hx] at hd;simp at hd
 | some x =>
  rw[hx] at hd;refine⟨x,rfl,?_⟩;by_cases h1:x.2=1
  · exact h1
  simp[h1] at hd
theorem Gh {σ:AG Nd} {h:Int} (hd:(σ.drop Nd.zero h).1=true):live (σ.drop Nd.zero h).2.2+1=live σ:=by
 obtain⟨x,hx,h1⟩:=Eg hd;obtain⟨m,rfl,hs,h0,hl⟩:=AG.Ac hx;unfold AG.drop live;rw[hx];simp only[AG.setAt,show((m:Int)+1-1).toNat=m by omega,if_pos h1];have:=countP_set (fun s:Nd×Nat=>s.2 != 0) σ.slots m x (Nd.zero,0) hs;simp[h1] at this;omega
theorem GX {σ:AG Nd} {h:Int} (hd:(σ.drop Nd.zero h).1=false):live (σ.drop Nd.zero h).2.2=live σ:=by
 cases hx:σ.get? h with
 | none=>rw[Ek hx]
 | some x =>
  obtain⟨m,rfl,hs,h0,hl⟩:=AG.Ac hx;unfold AG.drop at hd ⊢;rw[hx] at hd ⊢;simp only at hd ⊢;by_cases h1:x.2=1
  · simp[h1] at hd
  rw[if_neg h1];simp only[AG.setAt,live,show((m:Int)+1-1).toNat=m by omega];have:=countP_set (fun s:Nd×Nat=>s.2 != 0) σ.slots m x (x.1,x.2-1) hs;have h2:(x.2 != 0)=true:=by simpa using h0
  have h3:(x.2-1 != 0)=true:=by simp;omega
  simp only[h2,h3,if_true] at this;omega
def pile (n:Nd) (st:List Int):List Int:=(if n.left=0 then [] else [n.left])++((if n.right=0 then [] else [n.right])++st)
theorem JO (n:Nd) (st:List Int):(pile n st).length≤st.length+2:=by
 unfold pile;simp only[List.length_append];split<;>split<;>simp<;>omega
theorem Jo {σ:AG Nd} {h:Int} {rest:List Int} (hd:(σ.drop Nd.zero h).1=true):3*total (σ.drop Nd.zero h).2.2+(pile (nd σ h) rest).length<3*total σ+(h::rest).length:=by
 obtain⟨x,hx,_⟩:=Eg hd;have h1:=Cl hx;have h2:=JO (nd σ h) rest;simp only[List.length_cons];omega
theorem JG {σ:AG Nd} {h:Int} {rest:List Int}:3*total (σ.drop Nd.zero h).2.2+rest.length<3*total σ+(h::rest).length:=by
 simp only[List.length_cons];cases hx:σ.get? h with
 | none=>rw[Ek hx];simp
 | some x=>have h1:=Cl hx;omega
def sweep (σ:AG Nd) (st:List Int) (f:Nat):Nat×AG Nd :=
 match st with
 | []=>(f,σ)
 | h::rest=>if hd:(σ.drop Nd.zero h).1=true then sweep (σ.drop Nd.zero h).2.2 (pile (nd σ h) rest) (f+1) else sweep (σ.drop Nd.zero h).2.2 rest f
termination_by 3*total σ+st.length
decreasing_by
 · exact Jo hd
 exact JG
theorem CK (σ:AG Nd) (f:Nat):sweep σ [] f=(f,σ):=by rw[sweep]
theorem CE {σ:AG Nd} {h:Int} {rest:List Int} {f:Nat} (hd:(σ.drop Nd.zero h).1=true):sweep σ (h::rest) f=sweep (σ.drop Nd.zero h).2.2 (pile (nd σ h) rest) (f+1):=by
 rw[sweep,dif_pos hd]
theorem CD {σ:AG Nd} {h:Int} {rest:List Int} {f:Nat} (hd:(σ.drop Nd.zero h).1=false):sweep σ (h::rest) f=sweep (σ.drop Nd.zero h).2.2 rest f:=by
 rw[sweep,dif_neg (by rw[hd];simp)]
theorem PR {σ:AG Nd} {h:Int} {rest:List Int} {B:Nat} (hb:(h::rest).length+live σ≤B) :
 ((σ.drop Nd.zero h).1=true→(pile (nd σ h) rest).length+live (σ.drop Nd.zero h).2.2≤B)∧((σ.drop Nd.zero h).1=false→rest.length+live (σ.drop Nd.zero h).2.2≤B):=by
 simp only[List.length_cons] at hb;refine⟨fun hd=>?_,fun hd=>?_⟩
 · have h1:=Gh hd
   have h2:=JO (nd σ h) rest;omega
 have h1:=GX hd;omega
def Aw (σ:AG Nd) (h:Int):Int×Int×AG Nd :=
 if has σ h=true∧(nd σ h).held≠0 then (((sweep (bump σ h (-1)) [h] 0).1:Nat),0,(sweep (bump σ h (-1)) [h] 0).2) else (0,7,σ)
def Bf (σ:AG Nd) (h:Int):Prop:=h≠0∧(has σ h=false∨(nd σ h).held=0)
instance (σ:AG Nd) (h:Int):Decidable (Bf σ h):=inferInstanceAs (Decidable (_∧_))
noncomputable def BV (σ:AG Nd) (d left right:Int):Nd :=
 Nd.inner (Tag.GO (CB σ left) (CB σ right)) (Path.first (if left=0 then (nd σ right).key else (nd σ left).key) d) d left right (wrap64 ((nd σ left).size+(nd σ right).size))
noncomputable def Ag (σ:AG Nd) (d left right:Int):Int×Int×AG Nd :=
 if d<0∨255<d then (0,2,σ) else
 if Bf σ left∨Bf σ right then (0,7,σ) else
 if fitsB d left right (nd σ left) (nd σ right)=false then (0,2,σ) else
 if (σ.take (BV σ d left right)).2.1≠0 then (0,(σ.take (BV σ d left right)).2.1,σ) else
 ((σ.take (BV σ d left right)).1,0,bump (bump (σ.take (BV σ d left right)).2.2 left (-1)) right (-1))
def refs (n:Nd) (h:Int):Nat:=(if n.left=h then 1 else 0)+(if n.right=h then 1 else 0)
def part (s:Nd×Nat) (h:Int):Nat:=if s.2=0 then 0 else refs s.1 h
def sides (σ:AG Nd) (h:Int):Nat:=(σ.slots.map (part · h)).sum
def Bx (n:Nd):Int:=if n.kind=2 then n.depth else 256
structure Sound (σ:AG Nd) (pile:List Int):Prop where
 wf:σ.WF (fun _=>True)
 counts:∀h x,σ.get? h=some x→(x.2:Int)=x.1.held+sides σ h+pile.count h
 held:∀h x,σ.get? h=some x→0≤x.1.held
 left:∀h x,σ.get? h=some x→x.1.left≠0→∃y,σ.get? x.1.left=some y∧Bx x.1<Bx y.1
 right:∀h x,σ.get? h=some x→x.1.right≠0→∃y,σ.get? x.1.right=some y∧Bx x.1<Bx y.1
 pile:∀p∈pile,∃y,σ.get? p=some y
theorem NY:∀(l:List Nat),l.sum≠0→∃m x:Nat,l[m]?=some x∧x≠0
 | [],h=>absurd rfl h
 | a::l,h=>by
  by_cases ha:a=0
  · obtain⟨m,x,h1,h2⟩:=NY l (by simpa[ha] using h)
    exact⟨m+1,x,by simpa using h1,h2⟩
  exact⟨0,a,rfl,ha⟩
theorem Ou {σ:AG Nd} {h:Int} (hs:sides σ h≠0):∃k x,σ.get? k=some x∧(x.1.left=h∨x.1.right=h):=by
 obtain⟨m,x,h1,h2⟩:=NY _ hs;simp only[List.getElem?_map,Option.map_eq_some_iff] at h1;obtain⟨s,h1,rfl⟩:=h1;unfold part at h2;split at h2
 · exact absurd rfl h2
 rename_i h0;refine⟨(m:Int)+1,s,AG.Ij h1 h0,?_⟩;unfold refs at h2;by_cases hl:s.1.left=h
 · exact .inl hl
 by_cases hr:s.1.right=h
 · exact .inr hr
 simp[hl,hr] at h2
theorem E6 {σ:AG Nd} {m:Nat} {x:Nd×Nat} (hx:σ.slots[m]?=some x) (y:Nd×Nat) (h:Int) (fr:List Nat):sides ⟨σ.room,σ.slots.set m y,fr⟩ h+part x h=sides σ h+part y h:=by
 unfold sides;simp only[List.map_set];exact Fc _ m (part x h) (part y h) (by simp[hx])
theorem DG {σ:AG Nd} {m:Nat} (hm:m<σ.slots.length) (y:Nd×Nat) (fr:List Nat) (k:Int) :
 (⟨σ.room,σ.slots.set m y,fr⟩:AG Nd).get? k=if k=m+1 then (if y.2=0 then none else some y) else σ.get? k:=by
 unfold AG.get?;by_cases hk:k=m+1
 · rw[if_pos hk,if_pos (by omega),hk]
   simp only[show((m:Int)+1-1).toNat=m by omega,List.getElem?_set_self hm,Option.filter];by_cases h0:y.2=0<;>simp[h0]
 rw[if_neg hk];by_cases h1:1≤k
 · rw[if_pos h1,if_pos h1,List.getElem?_set_ne (by omega)]
 rw[if_neg h1,if_neg h1]
theorem get_append {σ:AG Nd} (y:Nd×Nat) (fr:List Nat) (hy:y.2≠0) (k:Int) :
 (⟨σ.room,σ.slots ++ [y],fr⟩:AG Nd).get? k=if k=σ.slots.length+1 then some y else σ.get? k:=by
 unfold AG.get?;by_cases hk:k=σ.slots.length+1
 · rw[if_pos hk,if_pos (by omega),hk]
   simp only[show((σ.slots.length:Int)+1-1).toNat=σ.slots.length by omega];rw[List.getElem?_append_right (Nat.le_refl _)];simp[Option.filter,hy]
 rw[if_neg hk];by_cases h1:1≤k
 · rw[if_pos h1,if_pos h1]
   rcases Nat.lt_or_ge (k-1).toNat σ.slots.length with hl|hl
   · rw[List.getElem?_append_left hl]
   rw[List.getElem?_append_right hl,List.getElem?_eq_none hl];rw[List.getElem?_eq_none (by simp;omega)]
 rw[if_neg h1,if_neg h1]
theorem Sound.put {σ:AG Nd} {pile pile':List Int} (hs:Sound σ pile) {h:Int} {x:Nd×Nat} (hx:σ.get? h=some x) {y:Nd} {c:Nat} (hc:c≠0) (hcm:c≤1073741824)
 (hl:y.left=x.1.left) (hr:y.right=x.1.right) (hk:Bx y=Bx x.1) (hh:0≤y.held) (he:(c:Int)-y.held-pile'.count h=x.2-x.1.held-pile.count h)
 (hp:∀k,k≠h→pile'.count k=pile.count k):Sound (σ.setAt h (y,c)) pile':=by
 obtain⟨m,rfl,hm,h0,hlt⟩:=AG.Ac hx
 have hget:∀k,(σ.setAt ((m:Int)+1) (y,c)).get? k=if k=m+1 then some (y,c) else σ.get? k:=fun k=>by
  have:=DG hlt (y,c) σ.free k;rw[if_neg (show ¬((y,c):Nd×Nat).2=0 from hc)] at this;simp only[AG.setAt,show((m:Int)+1-1).toNat=m by omega];exact this
 have hsd:∀k,sides (σ.setAt ((m:Int)+1) (y,c)) k=sides σ k:=fun k=>by
  have h1:=E6 hm (y,c) k σ.free;have h2:part (y,c) k=part x k:=by simp[part,hc,h0,refs,hl,hr]
  simp only[AG.setAt,show((m:Int)+1-1).toNat=m by omega];omega
 have hlive:∀k z,σ.get? k=some z→∃y',(σ.setAt ((m:Int)+1) (y,c)).get? k=some y'∧Bx y'.1=Bx z.1:=fun k z hz=>by
  rw[hget];by_cases hk':k=m+1
  · rw[if_pos hk'];subst hk';rw[hx] at hz;cases hz;exact⟨_,rfl,hk⟩
  rw[if_neg hk'];exact⟨z,hz,rfl⟩
 have hback:∀k z,(σ.setAt ((m:Int)+1) (y,c)).get? k=some z→∃z',σ.get? k=some z'∧z.1.left=z'.1.left∧z.1.right=z'.1.right∧Bx z.1=Bx z'.1:=fun k z hz=>by
  rw[hget] at hz;by_cases hk':k=m+1
  · rw[if_pos hk'] at hz;cases hz;subst hk';exact⟨x,hx,hl,hr,hk⟩
  rw[if_neg hk'] at hz;exact⟨z,hz,rfl,rfl,rfl⟩
 refine⟨?_,?_,?_,?_,?_,?_⟩
 · refine⟨hs.wf.room,by simpa[AG.setAt] using hs.wf.len,fun _ _=>trivial,fun s hs'=>?_,hs.wf.nodup,fun n hn=>?_,fun i v hv=>?_⟩
   · simp only[AG.setAt] at hs'
     rcases List.mem_or_eq_of_mem_set hs' with h|rfl
     · exact hs.wf.counts s h
     exact hcm
   · obtain⟨q1,v,q2⟩:=hs.wf.free n hn
     refine⟨q1,v,?_⟩;simp only[AG.setAt,show((m:Int)+1-1).toNat=m by omega];by_cases hmn:m=n-1
     · subst hmn;rw[hm] at q2;cases q2;exact absurd rfl h0
     rw[List.getElem?_set_ne hmn];exact q2
   simp only[AG.setAt,show((m:Int)+1-1).toNat=m by omega] at hv;by_cases hmn:m=i
   · subst hmn;rw[List.getElem?_set_self hlt] at hv;cases hv;exact absurd rfl hc
   rw[List.getElem?_set_ne hmn] at hv;exact hs.wf.freed i v hv
 · intro k z hz
   rw[hsd];rw[hget] at hz;by_cases hk':k=m+1
   · rw[if_pos hk'] at hz;cases hz;subst hk'
     have:=hs.counts _ _ hx;simp only;omega
   rw[if_neg hk'] at hz;rw[hp k hk'];exact hs.counts k z hz
 · intro k z hz
   rw[hget] at hz;by_cases hk':k=m+1
   · rw[if_pos hk'] at hz;cases hz;exact hh
   rw[if_neg hk'] at hz;exact hs.held k z hz
 · intro k z hz h1
   obtain⟨z',q1,q2,q3,q4⟩:=hback k z hz;obtain⟨u,q5,q6⟩:=hs.left k z' q1 (by rw[←q2];exact h1);obtain⟨u',q7,q8⟩:=hlive _ u q5;exact⟨u',by rw[q2];exact q7,by rw[q4,q8];exact q6⟩
 · intro k z hz h1
   obtain⟨z',q1,q2,q3,q4⟩:=hback k z hz;obtain⟨u,q5,q6⟩:=hs.right k z' q1 (by rw[←q3];exact h1);obtain⟨u',q7,q8⟩:=hlive _ u q5;exact⟨u',by rw[q3];exact q7,by rw[q4,q8];exact q6⟩
 intro p hp';by_cases hk':p=m+1
 · subst hk';exact⟨_,by rw[hget,if_pos rfl]⟩
 have h1:p∈pile:=List.count_pos_iff.1 (by rw[←hp p hk'];exact List.count_pos_iff.2 hp');obtain⟨u,hu⟩:=hs.pile p h1;exact⟨u,by rw[hget,if_neg hk'];exact hu⟩
theorem RB (n:Nd) (st:List Int) (k:Int) (hk:k≠0):(pile n st).count k=refs n k+st.count k:=by
 unfold pile refs;rw[List.count_append,List.count_append];by_cases hl:n.left=0<;>by_cases hr:n.right=0
 · simp[hl,hr,Ne.symm hk]
 · simp[hl,hr,Ne.symm hk,List.count_cons]
 · simp[hl,hr,Ne.symm hk,List.count_cons]
 simp[hl,hr,List.count_cons];omega
theorem Sl {n:Nd} {st:List Int} {p:Int} (h:p∈pile n st):(p=n.left∧n.left≠0)∨(p=n.right∧n.right≠0)∨p∈st:=by
 unfold pile at h;simp only[List.mem_append] at h;rcases h with h|h|h
 · by_cases hl:n.left=0
   · simp[hl] at h
   rw[if_neg hl] at h;exact .inl ⟨by simpa using h,hl⟩
 · by_cases hl:n.right=0
   · simp[hl] at h
   rw[if_neg hl] at h;exact .inr (.inl ⟨by simpa using h,hl⟩)
 exact .inr (.inr h)
theorem Sound.free {σ:AG Nd} {rest:List Int} {h:Int} (hs:Sound σ (h::rest)) {x:Nd×Nat} (hx:σ.get? h=some x) (h1:x.2=1) :
 Sound { σ.setAt h (Nd.zero,0) with free:=σ.free ++ [h.toNat] } (Store.pile x.1 rest):=by
 have hc:=hs.counts h x hx;have hh:=hs.held h x hx;rw[h1,List.count_cons_self] at hc;have hh0:x.1.held=0:=by omega
 have hs0:sides σ h=0:=by omega
 have hr0:rest.count h=0:=by omega
 obtain⟨m,rfl,hm,h0,hlt⟩:=AG.Ac hx
 have hget:∀k,({ σ.setAt ((m:Int)+1) (Nd.zero,0) with free:=σ.free ++ [((m:Int)+1).toNat] }:AG Nd).get? k=if k=m+1 then none else σ.get? k:=fun k=>by
  have:=DG hlt (Nd.zero,0) (σ.free ++ [((m:Int)+1).toNat]) k;simp only[AG.setAt,show((m:Int)+1-1).toNat=m by omega];simpa using this
 have hsd:∀k,sides ({ σ.setAt ((m:Int)+1) (Nd.zero,0) with free:=σ.free ++ [((m:Int)+1).toNat] }:AG Nd) k+refs x.1 k=sides σ k:=fun k=>by
  have q1:=E6 hm (Nd.zero,0) k (σ.free ++ [((m:Int)+1).toNat]);have q2:part x k=refs x.1 k:=by simp[part,h0]
  have q3:part (Nd.zero,0) k=0:=by simp[part]
  simp only[AG.setAt,show((m:Int)+1-1).toNat=m by omega];omega
 have hno:∀(k:Int) z,σ.get? k=some z→z.1.left≠m+1∧z.1.right≠m+1:=fun k z hz=>by
  obtain⟨m',rfl,hm',h0',hlt'⟩:=AG.Ac hz
  have q:part z ((m:Int)+1)=0:=by
   have:=E6 hm' (Nd.zero,0) ((m:Int)+1) [];have q3:part (Nd.zero,0) ((m:Int)+1)=0:=by simp[part]
   omega
  simp only[part,h0',if_false,refs] at q;constructor
  · intro e;simp[e] at q
  intro e;simp[e] at q
 have hlive:∀(k:Int) z,k≠m+1→σ.get? k=some z→({ σ.setAt ((m:Int)+1) (Nd.zero,0) with free:=σ.free ++ [((m:Int)+1).toNat] }:AG Nd).get? k=some z:=fun k z hk hz=>by
  rw[hget,if_neg hk];exact hz
 have hback:∀(k:Int) z,({ σ.setAt ((m:Int)+1) (Nd.zero,0) with free:=σ.free ++ [((m:Int)+1).toNat] }:AG Nd).get? k=some z→k≠m+1∧σ.get? k=some z:=fun k z hz=>by
  rw[hget] at hz;by_cases hk:k=m+1
  · rw[if_pos hk] at hz;cases hz
  rw[if_neg hk] at hz;exact⟨hk,hz⟩
 refine⟨?_,?_,?_,?_,?_,?_⟩
 · have hnf:m+1∉σ.free:=fun hn=>by
    obtain⟨q1,v,q2⟩:=hs.wf.free _ hn;rw[show m+1-1=m by omega,hm] at q2;cases q2;exact h0 rfl
   refine⟨hs.wf.room,by simpa[AG.setAt] using hs.wf.len,fun _ _=>trivial,fun s hs'=>?_,?_,fun n hn=>?_,fun i v hv=>?_⟩
   · simp only[AG.setAt] at hs'
     rcases List.mem_or_eq_of_mem_set hs' with h|rfl
     · exact hs.wf.counts s h
     exact Nat.zero_le _
   · rw[show((m:Int)+1).toNat=m+1 by omega]
     refine List.nodup_append.2 ⟨hs.wf.nodup,List.nodup_cons.2 ⟨by simp,List.nodup_nil⟩,fun a ha b hb=>?_⟩;rw[List.mem_singleton.1 hb];intro e;exact hnf (e▸ha)
   · rw[show((m:Int)+1).toNat=m+1 by omega] at hn
     simp only[AG.setAt,show((m:Int)+1-1).toNat=m by omega];rcases List.mem_append.1 hn with hn|hn
     · obtain⟨q1,v,q2⟩:=hs.wf.free n hn
       refine⟨q1,v,?_⟩;by_cases hmn:m=n-1
       · subst hmn;rw[hm] at q2;cases q2;exact absurd rfl h0
       rw[List.getElem?_set_ne hmn];exact q2
     rw[List.mem_singleton.1 hn];refine⟨by omega,Nd.zero,?_⟩;rw[show m+1-1=m by omega,List.getElem?_set_self hlt]
   simp only[AG.setAt,show((m:Int)+1-1).toNat=m by omega] at hv;rw[show((m:Int)+1).toNat=m+1 by omega];by_cases hmn:m=i
   · subst hmn;exact List.mem_append.2 (.inr (List.mem_singleton.2 rfl))
   rw[List.getElem?_set_ne hmn] at hv;exact List.mem_append.2 (.inl (hs.wf.freed i v hv))
 · intro k z hz
   obtain⟨hk,hz'⟩:=hback k z hz;obtain⟨m',hm',_,_,_⟩:=AG.Ac hz';have q1:=hs.counts k z hz';have q2:=hsd k;rw[RB _ _ _ (by omega)];rw[List.count_cons_of_ne (Ne.symm hk)] at q1;have q2':sides _ k=_:=q2.symm;rw[q2'] at q1
   push_cast at q1 ⊢
   omega
 · intro k z hz
   exact hs.held k z (hback k z hz).2
 · intro k z hz hl
   obtain⟨hk,hz'⟩:=hback k z hz;obtain⟨u,q1,q2⟩:=hs.left k z hz' hl;exact⟨u,hlive _ _ (hno k z hz').1 q1,q2⟩
 · intro k z hz hl
   obtain⟨hk,hz'⟩:=hback k z hz;obtain⟨u,q1,q2⟩:=hs.right k z hz' hl;exact⟨u,hlive _ _ (hno k z hz').2 q1,q2⟩
 intro p hp;rcases Sl hp with⟨rfl,hl⟩|⟨rfl,hl⟩|hp
 · obtain⟨u,q1,q2⟩:=hs.left _ x hx hl
   exact⟨u,hlive _ _ (hno _ x hx).1 q1⟩
 · obtain⟨u,q1,q2⟩:=hs.right _ x hx hl
   exact⟨u,hlive _ _ (hno _ x hx).2 q1⟩
 obtain⟨u,q1⟩:=hs.pile p (List.mem_cons_of_mem _ hp);refine⟨u,hlive _ _ (fun e=>?_) q1⟩;have:=List.count_pos_iff.2 hp;rw[e] at this;omega
theorem Ap {σ:AG Nd} {h:Int} {x:Nd×Nat} (hx:σ.get? h=some x):nd σ h=x.1:=by unfold nd;rw[hx];rfl
theorem B9 {σ:AG Nd} {h:Int} (hx:σ.get? h=none):nd σ h=Nd.zero:=by unfold nd;rw[hx];rfl
theorem CF {σ:AG Nd} {h:Int} {x:Nd×Nat} (hx:σ.get? h=some x):has σ h=true:=by unfold has;rw[hx];rfl
theorem Dz {σ:AG Nd} {h:Int} (hx:σ.get? h=none):has σ h=false:=by unfold has;rw[hx];rfl
theorem Jk {σ:AG Nd} {h:Int} {x:Nd×Nat} (hx:σ.get? h=some x):h≠0:=by
 obtain⟨m,rfl,_⟩:=AG.Ac hx;omega
theorem Sound.bump {σ:AG Nd} {pile pile':List Int} (hs:Sound σ pile) {h:Int} {x:Nd×Nat} (hx:σ.get? h=some x) {b:Int} (hb : -1≤b∧b≤1) (hh:0≤x.1.held+b) (he:(pile.count h:Int)=pile'.count h+b)
 (hp:∀k,k≠h→pile'.count k=pile.count k):Sound (bump σ h b) pile':=by
 obtain⟨m,hm,hm1,h0,hlt⟩:=AG.Ac hx;have hc:=hs.wf.counts x (List.mem_of_getElem? hm1);have hq:=hs.counts h x hx;have hw:wrap64 (x.1.held+b)=x.1.held+b:=by unfold wrap64;omega
 unfold Store.bump;rw[if_pos (CF hx),Ap hx,hw];unfold AG.set;rw[hx];refine hs.put hx h0 hc rfl rfl rfl hh ?_ hp;simp only[BC];omega
theorem Ie {σ:AG Nd} {h k:Int} {y:Nd×Nat} (hy:(σ.drop Nd.zero h).2.2.get? k=some y):∃c,σ.get? k=some (y.1,c):=by
 cases hx:σ.get? h with
 | none=>rw[Ek hx] at hy;exact⟨y.2,hy⟩
 | some x =>
  obtain⟨m,rfl,hm,h0,hlt⟩:=AG.Ac hx;unfold AG.drop at hy;rw[hx] at hy;simp only at hy;by_cases h1:x.2=1
  · rw[if_pos h1] at hy
    have:=DG hlt (Nd.zero,0) (σ.free ++ [((m:Int)+1).toNat]) k;simp only[AG.setAt,show((m:Int)+1-1).toNat=m by omega] at hy;rw[this] at hy;by_cases hk:k=m+1
    · rw[if_pos hk] at hy;cases hy
    rw[if_neg hk] at hy;exact⟨y.2,hy⟩
  rw[if_neg h1] at hy;have:=DG hlt (x.1,x.2-1) σ.free k;simp only[AG.setAt,show((m:Int)+1-1).toNat=m by omega] at hy;rw[this] at hy;by_cases hk:k=m+1
  · rw[if_pos hk] at hy
    split at hy
    · cases hy
    cases hy;subst hk;exact⟨x.2,hx⟩
  rw[if_neg hk] at hy;exact⟨y.2,hy⟩
theorem Sound.dropped {σ:AG Nd} {rest:List Int} {h:Int} (hs:Sound σ (h::rest)) :
 if (σ.drop Nd.zero h).1=true then Sound (σ.drop Nd.zero h).2.2 (Store.pile (nd σ h) rest) else Sound (σ.drop Nd.zero h).2.2 rest:=by
 obtain⟨x,hx⟩:=hs.pile h (List.mem_cons_self ..);obtain⟨m,hm,hm1,h0,hlt⟩:=AG.Ac hx;have hc:=hs.wf.counts x (List.mem_of_getElem? hm1);by_cases h1:x.2=1
 · have hd:σ.drop Nd.zero h=(true,0, { σ.setAt h (Nd.zero,0) with free:=σ.free ++ [h.toNat] }):=by unfold AG.drop;rw[hx];simp only[if_pos h1]
   rw[hd,if_pos rfl,Ap hx];exact hs.free hx h1
 have hd:σ.drop Nd.zero h=(false,0,σ.setAt h (x.1,x.2-1)):=by unfold AG.drop;rw[hx];simp only[if_neg h1]
 rw[hd,if_neg (by simp)];refine hs.put hx (by omega) (by omega) rfl rfl rfl (hs.held h x hx) ?_ (fun k hk=>(List.count_cons_of_ne (Ne.symm hk)).symm);rw[List.count_cons_self];omega
theorem Ej (σ:AG Nd) (st:List Int) (f:Nat) (hs:Sound σ st):Sound (sweep σ st f).2 []∧(sweep σ st f).1+live (sweep σ st f).2=f+live σ∧total (sweep σ st f).2≤total σ ∧
 (∀k y,(sweep σ st f).2.get? k=some y→∃c,σ.get? k=some (y.1,c)):=by
 induction σ,st,f using sweep.induct with
 | case1 σ f=>rw[CK];exact⟨hs,rfl,Nat.le_refl _,fun k y hy=>⟨y.2,hy⟩⟩
 | case2 σ f h rest hd ih =>
  rw[CE hd];have h1:=hs.dropped;rw[if_pos hd] at h1;obtain⟨q1,q2,q3,q4⟩:=ih h1;have h2:=Gh hd;obtain⟨x,hx,_⟩:=Eg hd;have h3:=Cl hx;exact⟨q1,by omega,by omega,fun k y hy=>by obtain⟨c,hc⟩:=q4 k y hy;exact Ie (y:=(y.1,c)) hc⟩
 | case3 σ f h rest hd ih =>
  have hd:(σ.drop Nd.zero h).1=false:=by simpa using hd
  rw[CD hd];have h1:=hs.dropped;rw[if_neg (by rw[hd];simp)] at h1;obtain⟨q1,q2,q3,q4⟩:=ih h1;have h2:=GX hd;obtain⟨x,hx⟩:=hs.pile h (List.mem_cons_self ..);have h3:=Cl hx;exact⟨q1,by omega,by omega,fun k y hy=>by obtain⟨c,hc⟩:=q4 k y hy;exact Ie (y:=(y.1,c)) hc⟩
theorem De {σ:AG Nd} {h b k:Int} {x:Nd×Nat} (hx:σ.get? h=some x):(bump σ h b).get? k=if k=h then some (BC x.1 (wrap64 (x.1.held+b)),x.2) else σ.get? k:=by
 obtain⟨m,rfl,hm,h0,hlt⟩:=AG.Ac hx;unfold Store.bump;rw[if_pos (CF hx),Ap hx];unfold AG.set;rw[hx];have:=DG hlt (BC x.1 (wrap64 (x.1.held+b)),x.2) σ.free k;rw[if_neg (show ¬((BC x.1 (wrap64 (x.1.held+b)),x.2):Nd×Nat).2=0 from h0)] at this;simp only[AG.setAt,show((m:Int)+1-1).toNat=m by omega];exact this
theorem Fe {σ:AG Nd} {h b:Int}:total (bump σ h b)=total σ:=by
 unfold Store.bump;split
 · rename_i hh
   obtain⟨x,hx⟩:∃x,σ.get? h=some x:=Option.isSome_iff_exists.1 hh;obtain⟨m,rfl,hm,h0,hlt⟩:=AG.Ac hx;unfold AG.set total;rw[hx];simp only[AG.setAt,show((m:Int)+1-1).toNat=m by omega,List.map_set];have:=Fc (σ.slots.map (·.2)) m x.2 x.2 (by simp[hm]);omega
 rfl
theorem FH {σ:AG Nd} {h b:Int}:live (bump σ h b)=live σ:=by
 unfold Store.bump;split
 · rename_i hh
   obtain⟨x,hx⟩:∃x,σ.get? h=some x:=Option.isSome_iff_exists.1 hh;obtain⟨m,rfl,hm,h0,hlt⟩:=AG.Ac hx;unfold AG.set live;rw[hx];simp only[AG.setAt,show((m:Int)+1-1).toNat=m by omega];have:=countP_set (fun s:Nd×Nat=>s.2 != 0) σ.slots m x (BC (nd σ ((m:Int)+1)) (wrap64 ((nd σ ((m:Int)+1)).held+b)),x.2) hm;have h2:(x.2 != 0)=true:=by simpa using h0
   simp only[h2,if_true] at this;omega
 rfl
theorem Mx {σ:AG Nd} (hs:Sound σ []) (h:Int):Sound (Aw σ h).2.2 []∧(Aw σ h).1+live (Aw σ h).2.2=live σ∧total (Aw σ h).2.2≤total σ ∧
 ((nd σ h).held≠0→(Aw σ h).2.1=0∧total (Aw σ h).2.2<total σ)∧(∀k y,(Aw σ h).2.2.get? k=some y→∃z,σ.get? k=some z∧y.1.held≤z.1.held):=by
 unfold Aw;by_cases hc:has σ h=true∧(nd σ h).held≠0
 · rw[if_pos hc]
   obtain⟨x,hx⟩:∃x,σ.get? h=some x:=Option.isSome_iff_exists.1 hc.1;have hn:=Ap hx;have h0:=hs.held h x hx;have hd:x.1.held≠0:=by rw[←hn];exact hc.2
   have h1:Sound (bump σ h (-1)) [h]:=hs.bump hx (by omega) (by omega) (by simp) (fun k hk=>by simp[Ne.symm hk]);obtain⟨q1,q2,q3,q4⟩:=Ej _ _ 0 h1;have hbl:live (bump σ h (-1))=live σ:=FH;have hbt:total (bump σ h (-1))=total σ:=Fe;refine⟨q1,by simp only;omega,by simp only;omega,fun _=>⟨rfl,?_⟩,fun k y hy=>?_⟩
   · simp only
     have hx':(bump σ h (-1)).get? h=some (BC x.1 (wrap64 (x.1.held + -1)),x.2):=by rw[De hx,if_pos rfl]
     have ht:=Cl hx';have hdr:=h1.dropped;by_cases hf:((bump σ h (-1)).drop Nd.zero h).1=true
     · rw[CE hf]
       rw[if_pos hf] at hdr;have:=(Ej _ _ (0+1) hdr).2.2.1;omega
     have hf:((bump σ h (-1)).drop Nd.zero h).1=false:=by simpa using hf
     rw[CD hf,CK]
     show total ((bump σ h (-1)).drop Nd.zero h).2.2<total σ
     omega
   obtain⟨c,hy'⟩:=q4 k y hy;rw[De hx] at hy';by_cases hk:k=h
   · rw[if_pos hk] at hy'
     have hy1:y.1=BC x.1 (wrap64 (x.1.held + -1)):=by simpa using (congrArg (Option.map Prod.fst) hy').symm
     rw[hy1];subst hk;refine⟨x,hx,?_⟩;have hcq:=hs.counts _ x hx;obtain⟨m,hm,hm1,_,_⟩:=AG.Ac hx;have hcm:=hs.wf.counts x (List.mem_of_getElem? hm1);have hw:wrap64 (x.1.held + -1)=x.1.held + -1:=by unfold wrap64;omega
     show wrap64 (x.1.held + -1)≤x.1.held
     omega
   rw[if_neg hk] at hy';exact⟨_,hy',Int.le_refl _⟩
 rw[if_neg hc];refine⟨hs,by simp,Nat.le_refl _,fun h0=>?_,fun k y hy=>⟨y,hy,Int.le_refl _⟩⟩;cases hx:σ.get? h with
 | none=>rw[B9 hx] at h0;exact absurd rfl h0
 | some x=>exact absurd ⟨CF hx,h0⟩ hc
theorem FQ {σ:AG Nd} (hw:σ.WF (fun _=>True)) (x:Nd):((σ.take x).2.1≠0∧σ.take x=(0,9,σ)) ∨
 (∃m:Nat,(σ.take x).1=m+1∧(σ.take x).2.1=0∧σ.get? (m+1)=none∧(∀k,(σ.take x).2.2.get? k=if k=m+1 then some (x,1) else σ.get? k)∧(∀k,sides (σ.take x).2.2 k=sides σ k+refs x k) ∧
  (σ.take x).2.2.WF (fun _=>True)):=by
 unfold AG.take;by_cases hu:σ.used=σ.room
 · rw[if_pos hu];exact .inl ⟨by simp,rfl⟩
 rw[if_neg hu];right;cases hg:σ.free.getLast? with
 | none =>
  have hfr:σ.free = []:=by simpa using hg
  simp only;refine⟨σ.slots.length,rfl,trivial,?_,fun k=>get_append (x,1) σ.free (by simp) k,fun k=>?_,?_⟩
  · unfold AG.get?
    rw[if_pos (by omega),show((σ.slots.length:Int)+1-1).toNat=σ.slots.length by omega,List.getElem?_eq_none (Nat.le_refl _)];rfl
  · simp[sides,part]
  have hl:σ.slots.length≠σ.room:=by unfold AG.used at hu;rw[hfr] at hu;simpa using hu
  have hl2:=hw.len;refine⟨hw.room,by simp;omega,fun _ _=>trivial,fun s hs=>?_,hw.nodup,fun n hn=>?_,fun i v hv=>?_⟩
  · rcases List.mem_append.1 hs with h|h
    · exact hw.counts s h
    rw[List.mem_singleton.1 h];show(1:Nat)≤1073741824;omega
  · simp only at hn;rw[hfr] at hn;cases hn
  rcases Nat.lt_or_ge i σ.slots.length with hl|hl
  · rw[List.getElem?_append_left hl] at hv;exact hw.freed i v hv
  rw[List.getElem?_append_right hl] at hv;cases hq:i-σ.slots.length with
  | zero=>rw[hq] at hv;simp at hv
  | succ k=>rw[hq] at hv;simp at hv
 | some n =>
  obtain⟨fr,hfr⟩:∃fr,σ.free=fr ++ [n]:=by
   have:=List.getLast?_eq_some_iff.1 hg;exact this
  have hn:n∈σ.free:=by rw[hfr];simp
  obtain⟨q1,v,q2⟩:=hw.free n hn;have hlt:=(List.getElem?_eq_some_iff.1 q2).1;obtain⟨m,rfl⟩:∃m,n=m+1:=⟨n-1,by omega⟩
  simp only[show m+1-1=m by omega] at q2 hlt ⊢;refine⟨m,by omega,trivial,?_,fun k=>?_,fun k=>?_,?_⟩
  · unfold AG.get?
    rw[if_pos (by omega),show((m:Int)+1-1).toNat=m by omega,q2];rfl
  · have:=DG hlt (x,1) σ.free.dropLast k
    simpa using this
  · have h1:=E6 q2 (x,1) k σ.free.dropLast
    have h2:part (v,0) k=0:=by simp[part]
    have h3:part (x,1) k=refs x k:=by simp[part]
    omega
  have hnd:=hw.nodup;rw[hfr] at hnd;obtain⟨n1,n2,n3⟩:=List.nodup_append.1 hnd;refine⟨hw.room,by simpa using hw.len,fun _ _=>trivial,fun s hs=>?_,?_,fun i hi=>?_,fun i u hu=>?_⟩
  · rcases List.mem_or_eq_of_mem_set hs with h|rfl
    · exact hw.counts s h
    show(1:Nat)≤1073741824;omega
  · rw[hfr,List.dropLast_concat];exact n1
  · simp only at hi
    rw[hfr,List.dropLast_concat] at hi;obtain⟨r1,u,r2⟩:=hw.free i (by rw[hfr];exact List.mem_append.2 (.inl hi));have hne:i≠m+1:=n3 i hi (m+1) (List.mem_singleton.2 rfl);exact⟨r1,u,by rw[List.getElem?_set_ne (by omega)];exact r2⟩
  rw[hfr,List.dropLast_concat];by_cases hmi:m=i
  · subst hmi;rw[List.getElem?_set_self hlt] at hu;simp at hu
  rw[List.getElem?_set_ne hmi] at hu;have:=hw.freed i u hu;rw[hfr] at this;rcases List.mem_append.1 this with h|h
  · exact h
  have:=List.mem_singleton.1 h;omega
theorem Sound.OQ {σ:AG Nd} {pile:List Int} (hs:Sound σ pile) {k:Int} (hk:k≠0) (hn:σ.get? k=none):sides σ k=0:=by
 by_cases h0:sides σ k=0
 · exact h0
 obtain⟨j,x,hx,hl|hr⟩:=Ou h0
 · obtain⟨y,hy,_⟩:=hs.left j x hx (by rw[hl];exact hk)
   rw[hl,hn] at hy;cases hy
 obtain⟨y,hy,_⟩:=hs.right j x hx (by rw[hr];exact hk);rw[hr,hn] at hy;cases hy
theorem Sound.take {σ:AG Nd} (hs:Sound σ []) {x:Nd} (hh:x.held=1)
 (hl:x.left≠0→∃y,σ.get? x.left=some y∧Bx x<Bx y.1∧1≤y.1.held) (hr:x.right≠0→∃y,σ.get? x.right=some y∧Bx x<Bx y.1∧1≤y.1.held) (hlr:x.left≠0→x.left≠x.right)
 (h0:(σ.take x).2.1=0):Sound (Store.bump (Store.bump (σ.take x).2.2 x.left (-1)) x.right (-1)) []:=by
 rcases FQ hs.wf x with⟨h1,h2⟩|⟨m,h1,h2,h3,h4,h5,h6⟩
 · exact absurd h0 h1
 obtain⟨τ,hτ⟩:∃τ,τ=(σ.take x).2.2:=⟨_,rfl⟩
 rw[←hτ] at h4 h5 h6 ⊢;have hne:∀k z,σ.get? k=some z→k≠m+1:=fun k z hz e=>by rw[e,h3] at hz;cases hz
 have hup:∀k z,σ.get? k=some z→τ.get? k=some z:=fun k z hz=>by rw[h4,if_neg (hne k z hz)];exact hz
 have hnew:τ.get? (m+1)=some (x,1):=by rw[h4,if_pos rfl]
 have hxl:x.left≠m+1:=fun e=>by
  obtain⟨y,hy,_⟩:=hl (by omega);exact hne _ _ hy e
 have hxr:x.right≠m+1:=fun e=>by
  obtain⟨y,hy,_⟩:=hr (by omega);exact hne _ _ hy e
 have hs0:sides σ (m+1)=0:=hs.OQ (by omega) h3;obtain⟨τ1,hτ1⟩:∃τ1,τ1=Store.bump τ x.left (-1):=⟨_,rfl⟩
 obtain⟨τ2,hτ2⟩:∃τ2,τ2=Store.bump τ1 x.right (-1):=⟨_,rfl⟩
 rw[←hτ1, ←hτ2]
 have hcw:∀k z,σ.get? k=some z→z.1.held≤1073741824:=fun k z hz=>by
  obtain⟨j,hj,hj1,_,_⟩:=AG.Ac hz;have q1:=hs.wf.counts z (List.mem_of_getElem? hj1);have q2:=hs.counts k z hz;simp at q2;omega
 have hw:∀k z,σ.get? k=some z→1≤z.1.held→wrap64 (z.1.held + -1)=z.1.held-1:=fun k z hz h1=>by
  have:=hcw k z hz;unfold wrap64;omega
 have g1:∀k,τ1.get? k=if k=x.left∧x.left≠0 then (τ.get? k).map (fun z=>(BC z.1 (wrap64 (z.1.held + -1)),z.2)) else τ.get? k:=fun k=>by
  by_cases hl0:x.left=0
  · have:τ1=τ:=by rw[hτ1,hl0];rfl
    rw[this,if_neg (fun h=>h.2 hl0)]
  obtain⟨y,hy,_⟩:=hl hl0;rw[hτ1,De (hup _ _ hy)];by_cases hk:k=x.left
  · rw[if_pos hk,if_pos ⟨hk,hl0⟩,hk,hup _ _ hy];rfl
  rw[if_neg hk,if_neg (fun h=>hk h.1)]
 have g2:∀k,τ2.get? k=if k=x.right∧x.right≠0 then (τ1.get? k).map (fun z=>(BC z.1 (wrap64 (z.1.held + -1)),z.2)) else τ1.get? k:=fun k=>by
  by_cases hl0:x.right=0
  · have:τ2=τ1:=by rw[hτ2,hl0];rfl
    rw[this,if_neg (fun h=>h.2 hl0)]
  obtain⟨y,hy,_⟩:=hr hl0
  have hy1:τ1.get? x.right=some y:=by
   rw[g1,if_neg (fun h=>hlr h.2 h.1.symm)];exact hup _ _ hy
  rw[hτ2,De hy1];by_cases hk:k=x.right
  · rw[if_pos hk,if_pos ⟨hk,hl0⟩,hk,hy1];rfl
  rw[if_neg hk,if_neg (fun h=>hk h.1)]
 have hbwf:∀(ρ:AG Nd) (k b:Int),ρ.WF (fun _=>True)→(Store.bump ρ k b).WF (fun _=>True):=fun ρ k b hρ=>by
  unfold Store.bump;split
  · rename_i hh
    obtain⟨z,hz⟩:∃z,ρ.get? k=some z:=Option.isSome_iff_exists.1 hh;obtain⟨j,rfl,hj,j0,jlt⟩:=AG.Ac hz;unfold AG.set;rw[hz];simp only[AG.setAt,show((j:Int)+1-1).toNat=j by omega];refine⟨hρ.room,by simpa using hρ.len,fun _ _=>trivial,fun s hs'=>?_,hρ.nodup,fun n hn=>?_,fun i v hv=>?_⟩
    · rcases List.mem_or_eq_of_mem_set hs' with h|rfl
      · exact hρ.counts s h
      exact hρ.counts z (List.mem_of_getElem? hj)
    · obtain⟨q1,v,q2⟩:=hρ.free n hn
      refine⟨q1,v,?_⟩;by_cases hmn:j=n-1
      · subst hmn;rw[hj] at q2;cases q2;exact absurd rfl j0
      rw[List.getElem?_set_ne hmn];exact q2
    by_cases hmn:j=i
    · subst hmn;rw[List.getElem?_set_self jlt] at hv;simp at hv;exact absurd hv.2 j0
    rw[List.getElem?_set_ne hmn] at hv;exact hρ.freed i v hv
  exact hρ
 have hbs:∀(ρ:AG Nd) (k b j:Int),sides (Store.bump ρ k b) j=sides ρ j:=fun ρ k b j=>by
  unfold Store.bump;split
  · rename_i hh
    obtain⟨z,hz⟩:∃z,ρ.get? k=some z:=Option.isSome_iff_exists.1 hh;obtain⟨i,rfl,hi,i0,ilt⟩:=AG.Ac hz;rw[Ap hz];unfold AG.set;rw[hz];simp only[AG.setAt,show((i:Int)+1-1).toNat=i by omega];have q1:=E6 hi (BC z.1 (wrap64 (z.1.held+b)),z.2) j ρ.free;have q2:part (BC z.1 (wrap64 (z.1.held+b)),z.2) j=part z j:=rfl;omega
  rfl
 have hget:∀k z,τ2.get? k=some z→(k=m+1∧z=(x,1))∨(k≠m+1∧∃y,σ.get? k=some y∧z.2=y.2∧z.1.left=y.1.left∧z.1.right=y.1.right∧Bx z.1=Bx y.1∧0≤z.1.held∧z.1.held+refs x k=y.1.held):=fun k z hz=>by
  by_cases hkm:k=m+1
  · left
    rw[g2,if_neg (fun h=>hxr (h.1.symm.trans hkm)),g1,if_neg (fun h=>hxl (h.1.symm.trans hkm)),hkm,hnew] at hz;cases hz;exact⟨hkm,rfl⟩
  right;refine⟨hkm,?_⟩;have hk0:k≠0:=Jk hz;by_cases hkr:k=x.right
  · obtain⟨y,hy,y1,y2⟩:=hr (by omega)
    rw[←hkr] at hy;have hkl:¬(k=x.left∧x.left≠0):=fun h=>hlr h.2 (by omega)
    rw[g2,if_pos ⟨hkr,by omega⟩,g1,if_neg hkl,hup _ _ hy] at hz;cases hz;refine⟨y,hy,rfl,rfl,rfl,rfl,?_,?_⟩
    · show 0≤wrap64 (y.1.held + -1)
      rw[hw _ _ hy y2];omega
    show wrap64 (y.1.held + -1)+_=_
    have hxlk:x.left≠k:=fun e=>hkl ⟨e.symm,by omega⟩
    have:refs x k=1:=by simp[refs,hxlk, ←hkr]
    rw[hw _ _ hy y2,this];omega
  rw[g2,if_neg (fun h=>hkr h.1)] at hz;by_cases hkl:k=x.left
  · obtain⟨y,hy,y1,y2⟩:=hl (by omega)
    rw[←hkl] at hy;rw[g1,if_pos ⟨hkl,by omega⟩,hup _ _ hy] at hz;cases hz;refine⟨y,hy,rfl,rfl,rfl,rfl,?_,?_⟩
    · show 0≤wrap64 (y.1.held + -1)
      rw[hw _ _ hy y2];omega
    show wrap64 (y.1.held + -1)+_=_
    have:refs x k=1:=by simp[refs, ←hkl,Ne.symm hkr]
    rw[hw _ _ hy y2,this];omega
  rw[g1,if_neg (fun h=>hkl h.1),h4,if_neg hkm] at hz;have:refs x k=0:=by simp[refs,Ne.symm hkl,Ne.symm hkr]
  exact⟨z,hz,rfl,rfl,rfl,rfl,hs.held k z hz,by rw[this];simp⟩
 have hlive:∀k y,σ.get? k=some y→∃z,τ2.get? k=some z∧Bx z.1=Bx y.1:=fun k y hy=>by
  have h7:=hup k y hy;rw[g2];split
  · rw[g1]
    split
    · rw[h7];exact⟨_,rfl,rfl⟩
    rw[h7];exact⟨_,rfl,rfl⟩
  rw[g1];split
  · rw[h7];exact⟨_,rfl,rfl⟩
  rw[h7];exact⟨_,rfl,rfl⟩
 have hsd:∀k,sides τ2 k=sides σ k+refs x k:=fun k=>by rw[hτ2,hbs,hτ1,hbs,h5]
 refine⟨?_,?_,?_,?_,?_,?_⟩
 · rw[hτ2,hτ1];exact hbwf _ _ _ (hbwf _ _ _ h6)
 · intro k z hz
   rw[hsd];rcases hget k z hz with⟨rfl,rfl⟩|⟨hkm,y,hy,q1,q2,q3,q4,q5,q6⟩
   · have:refs x ((m:Int)+1)=0:=by simp[refs,hxl,hxr]
     rw[hs0,this,hh];rfl
   have:=hs.counts k y hy;simp at this ⊢;omega
 · intro k z hz
   rcases hget k z hz with⟨rfl,rfl⟩|⟨hkm,y,hy,q1,q2,q3,q4,q5,q6⟩
   · rw[hh];decide
   exact q5
 · intro k z hz h7
   rcases hget k z hz with⟨rfl,rfl⟩|⟨hkm,y,hy,q1,q2,q3,q4,q5,q6⟩
   · obtain⟨y,hy,y1,_⟩:=hl h7
     obtain⟨u,hu,hu1⟩:=hlive _ y hy;exact⟨u,hu,by rw[hu1];exact y1⟩
   obtain⟨u,hu,hu1⟩:=hs.left k y hy (by rw[←q2];exact h7);obtain⟨u',hu',hu2⟩:=hlive _ u hu;exact⟨u',by rw[q2];exact hu',by rw[q4,hu2];exact hu1⟩
 · intro k z hz h7
   rcases hget k z hz with⟨rfl,rfl⟩|⟨hkm,y,hy,q1,q2,q3,q4,q5,q6⟩
   · obtain⟨y,hy,y1,_⟩:=hr h7
     obtain⟨u,hu,hu1⟩:=hlive _ y hy;exact⟨u,hu,by rw[hu1];exact y1⟩
   obtain⟨u,hu,hu1⟩:=hs.right k y hy (by rw[←q3];exact h7);obtain⟨u',hu',hu2⟩:=hlive _ u hu;exact⟨u',by rw[q3];exact hu',by rw[q4,hu2];exact hu1⟩
 intro p hp;cases hp
theorem Sound.new (n:Nat) (h1:1≤n) (h2:n≤65536):Sound ⟨n,[],[]⟩ []:=by
 have hg:∀h,(⟨n,[],[]⟩:AG Nd).get? h=none:=fun h=>by unfold AG.get?;split<;>simp[Option.filter]
 refine⟨⟨⟨h1,h2⟩,Nat.zero_le _,fun _ _=>trivial,fun s hs=>?_,List.nodup_nil,fun m hm=>?_,fun i v hv=>?_⟩,fun h x hx=>?_,fun h x hx=>?_,fun h x hx=>?_,fun h x hx=>?_,fun p hp=>?_⟩
 · cases hs
 · cases hm
 · simp at hv
 · rw[hg] at hx;cases hx
 · rw[hg] at hx;cases hx
 · rw[hg] at hx;cases hx
 · rw[hg] at hx;cases hx
 cases hp
theorem FC {σ:AG Nd} {b:Int}:bump σ 0 b=σ:=rfl
theorem Nw {σ:AG Nd} (hs:Sound σ []) (key value:List UInt8) (v:Value):Sound (As σ key value v).2.2 []:=by
 unfold As;split
 · exact hs
 by_cases h0:(σ.take (Nd.leaf (Tag.D4 key (Tag.Bb value)) key (Tag.Bb value) value v)).2.1=0
 · exact hs.take (x:=Nd.leaf (Tag.D4 key (Tag.Bb value)) key (Tag.Bb value) value v) rfl (fun h=>absurd rfl h) (fun h=>absurd rfl h) (fun h=>absurd rfl h) h0
 rcases FQ hs.wf (Nd.leaf (Tag.D4 key (Tag.Bb value)) key (Tag.Bb value) value v) with⟨h1,h2⟩|⟨m,h1,h2,_⟩
 · rw[h2];exact hs
 exact absurd h2 h0
theorem NG {σ:AG Nd} (hs:Sound σ []) (h:Int):Sound (Au σ h).2 []:=by
 unfold Au;split
 · rename_i he
   cases hx:σ.get? h with
   | none=>unfold AG.hold at he;rw[hx] at he;simp at he
   | some x =>
    obtain⟨m,rfl,hm,h0,hlt⟩:=AG.Ac hx;have hc:=hs.wf.counts x (List.mem_of_getElem? hm);have hq:=hs.counts _ x hx;have hh:=hs.held _ x hx;have hn:x.2≠1073741824:=fun e=>by unfold AG.hold at he;rw[hx] at he;simp[e] at he
    have hst:(σ.hold ((m:Int)+1)).2=σ.setAt ((m:Int)+1) (x.1,x.2+1):=by unfold AG.hold;rw[hx];simp only[if_neg hn]
    rw[hst]
    have h1:Sound (σ.setAt ((m:Int)+1) (x.1,x.2+1)) [(m:Int)+1]:=by
     refine hs.put hx (by omega) (by omega) rfl rfl rfl hh ?_ (fun k hk=>by simp[Ne.symm hk]);simp;omega
    have hx':(σ.setAt ((m:Int)+1) (x.1,x.2+1)).get? ((m:Int)+1)=some (x.1,x.2+1):=by
     have:=DG hlt (x.1,x.2+1) σ.free ((m:Int)+1);rw[if_pos rfl,if_neg (show ¬((x.1,x.2+1):Nd×Nat).2=0 by simp)] at this;simp only[AG.setAt,show((m:Int)+1-1).toNat=m by omega];exact this
    exact h1.bump hx' (by omega) (by simp only;omega) (by simp) (fun k hk=>by simp[Ne.symm hk])
 exact hs
theorem EU {n:Nd} {d b:Int} (h:CO n d b=true) (hd:d≤255):d<Bx n∧bit n.key d=b:=by
 unfold CO JM at h;by_cases hk:n.kind=2
 · by_cases hx:n.depth=d+1
   · simp[hk,hx] at h
     exact⟨by unfold Bx;rw[if_pos hk];omega,h⟩
   simp[hk,hx] at h
 simp[hk] at h;exact⟨by unfold Bx;rw[if_neg hk];omega,h⟩
theorem Md {σ:AG Nd} (hs:Sound σ []) (d l r:Int):Sound (Ag σ d l r).2.2 []:=by
 unfold Ag;split
 · exact hs
 split
 · exact hs
 split
 · exact hs
 split
 · exact hs
 rename_i h1 h2 h3 h4;have h4:(σ.take (BV σ d l r)).2.1=0:=by simpa using h4
 have h3:fitsB d l r (nd σ l) (nd σ r)=true:=by simpa using h3
 obtain⟨hl,hr⟩:=not_or.1 h2
 have there:∀k,k≠0→¬Bf σ k→∃y,σ.get? k=some y∧nd σ k=y.1∧1≤y.1.held:=fun k hk hb=>by
  cases hx:σ.get? k with
  | none=>exact absurd ⟨hk,.inl (Dz hx)⟩ hb
  | some y =>
   refine⟨y,rfl,Ap hx,?_⟩;have h5:=hs.held k y hx;have h6:y.1.held≠0:=fun e=>hb ⟨hk,.inr (by rw[Ap hx];exact e)⟩
   omega
 unfold fitsB at h3;refine hs.take (x:=BV σ d l r) rfl ?_ ?_ ?_ h4
 · intro hl0
   change l≠0 at hl0;obtain⟨y,q1,q2,q3⟩:=there l hl0 hl;refine⟨y,q1,?_,q3⟩;rw[if_neg hl0] at h3
   have hf:CO (nd σ l) d 0=true:=by
    split at h3
    · simp at h3;exact h3.2
    simp at h3;exact h3.1
   rw[q2] at hf;exact(EU hf (by omega)).1
 · intro hr0
   change r≠0 at hr0;obtain⟨y,q1,q2,q3⟩:=there r hr0 hr;refine⟨y,q1,?_,q3⟩
   have hf:CO (nd σ r) d 1=true:=by
    split at h3
    · simp at h3;exact h3.2
    simp at h3;exact h3.2.1
   rw[q2] at hf;exact(EU hf (by omega)).1
 intro hl0 hlr;change l≠0 at hl0;change l=r at hlr;subst hlr;rw[if_neg hl0,if_neg hl0] at h3;simp at h3;have h5:=(EU h3.1 (by omega)).2;have h6:=(EU h3.2.1 (by omega)).2;omega
theorem nodup_map {f:Nat→Nat}:∀(l:List Nat),l.Nodup→(∀a∈l,∀b∈l,f a=f b→a=b)→(l.map f).Nodup
 | [],_,_=>List.nodup_nil
 | a::l,h,hi=>by
  obtain⟨h1,h2⟩:=List.nodup_cons.1 h;refine List.nodup_cons.2 ⟨fun hm=>?_,nodup_map l h2 (fun x hx y hy=>hi x (List.mem_cons_of_mem _ hx) y (List.mem_cons_of_mem _ hy))⟩;obtain⟨b,hb,e⟩:=List.mem_map.1 hm;have:=hi b (List.mem_cons_of_mem _ hb) a (List.mem_cons_self ..) e;exact h1 (this▸hb)
theorem JL:∀(l:List (Nd×Nat)),l.length=l.countP (fun s=>s.2 != 0)+l.countP (fun s=>s.2 == 0)
 | []=>rfl
 | a::l=>by
  have:=JL l;simp only[List.length_cons,List.countP_cons];by_cases h:a.2=0<;>simp[h]<;>omega
theorem JK:∀(l:List (Nd×Nat)),((List.range l.length).filter (fun i=>(l[i]?.map (·.2)) == some 0)).length=l.countP (fun s=>s.2 == 0)
 | []=>rfl
 | a::l=>by
  have ih:=JK l;have e:((fun i=>((a::l)[i]?.map (·.2)) == some 0) ∘ Nat.succ)=(fun i=>(l[i]?.map (·.2)) == some 0):=by funext i;simp
  rw[List.length_cons,List.range_succ_eq_map,List.filter_cons,List.filter_map,e,List.countP_cons, ←ih];by_cases h:a.2=0<;>simp[h]
theorem Ik {σ:AG Nd} (hw:σ.WF (fun _=>True)):σ.used=live σ:=by
 have hsplit:=JL σ.slots
 have hfree:σ.free.length=σ.slots.countP (fun s=>s.2 == 0):=by
  rw[←JK];refine Nat.le_antisymm ?_ ?_
  · have hnd:(σ.free.map (fun n=>n-1)).Nodup:=nodup_map _ hw.nodup (fun a ha b hb e=>by
     obtain⟨p,_⟩:=hw.free a ha;obtain⟨q,_⟩:=hw.free b hb;omega)
    have h1:=CL _ ((List.range σ.slots.length).filter (fun i=>(σ.slots[i]?.map (·.2)) == some 0)) hnd (fun x hx=>by
     obtain⟨n,hn,rfl⟩:=List.mem_map.1 hx;obtain⟨p,v,hv⟩:=hw.free n hn;refine List.mem_filter.2 ⟨List.mem_range.2 (List.getElem?_eq_some_iff.1 hv).1,?_⟩;rw[hv];rfl)
    simpa using h1
  have hnd:(((List.range σ.slots.length).filter (fun i=>(σ.slots[i]?.map (·.2)) == some 0)).map (fun n=>n+1)).Nodup :=
   nodup_map _ (List.Pairwise.filter _ List.nodup_range) (fun a _ b _ e=>by simpa using e)
  have h1:=CL _ σ.free hnd (fun x hx=>by
   obtain⟨n,hn,rfl⟩:=List.mem_map.1 hx;obtain⟨p,q⟩:=List.mem_filter.1 hn;have hlt:=List.mem_range.1 p;rw[List.getElem?_eq_getElem hlt] at q;simp at q;exact hw.freed n (σ.slots[n]).1 (by rw[List.getElem?_eq_getElem hlt, ←q]))
  simpa using h1
 unfold AG.used live;omega
theorem J0 {σ:AG Nd}:(Gk σ).length=live σ:=by
 have:∀k,k≤σ.slots.length→(σ.occ k).length=(σ.slots.take k).countP (fun s=>s.2 != 0):=fun k=>by
  induction k with
  | zero=>intro _;simp[AG.occ]
  | succ k ih =>
   intro hk;have hlt:k<σ.slots.length:=by omega
   rw[List.take_add_one,List.getElem?_eq_getElem hlt,List.countP_append, ←ih (by omega)];by_cases h0:(σ.slots[k]).2=0
   · have hx:σ.get? ((k:Int)+1)=none:=by
      unfold AG.get?;rw[if_pos (by omega),show((k:Int)+1-1).toNat=k by omega,List.getElem?_eq_getElem hlt];simp[Option.filter,h0]
     rw[AG.J2 hx];simp[h0]
   have hx:=AG.Ij (List.getElem?_eq_getElem hlt) h0;rw[AG.KZ hx];simp[h0]
 unfold Gk;rw[this _ (Nat.le_refl _),List.take_length];rfl
def stat (n:Nd):Nd:=BC n 0
def sk (σ:AG Nd) (k:Int):Option Nd:=(σ.get? k).map (fun x=>stat x.1)
def held (σ:AG Nd) (h:Int):Int:=(nd σ h).held
section
variable {σ : AG Nd} {h k : Int} {x : Nd×Nat}
theorem Bl (hx:σ.get? h=some x):sk σ h=some (stat x.1):=by unfold sk;rw[hx];rfl
theorem MW (hx:σ.get? h=none):sk σ h=none:=by unfold sk;rw[hx];rfl
theorem Ev {n:Nd} (hx:sk σ h=some n):∃x,σ.get? h=some x∧n=stat x.1:=by
 unfold sk at hx;cases hg:σ.get? h with
 | none=>rw[hg] at hx;cases hx
 | some x=>rw[hg] at hx;cases hx;exact⟨x,rfl,rfl⟩
theorem Br (hx:σ.get? h=some x):held σ h=x.1.held:=by unfold held;rw[Ap hx]
theorem Io (hx:σ.get? h=none):held σ h=0:=by unfold held;rw[B9 hx];rfl
theorem Bd (hh:1≤held σ h):∃x,σ.get? h=some x∧1≤x.1.held:=by
 cases hx:σ.get? h with
 | none=>rw[Io hx] at hh;omega
 | some x=>exact⟨x,rfl,by rw[Br hx] at hh;exact hh⟩
theorem I7 {b:Int} (hx:σ.get? h=none):bump σ h b=σ:=by unfold Store.bump;rw[if_neg (by rw[Dz hx];simp)]
theorem Hr (σ:AG Nd) (h b k:Int):sk (bump σ h b) k=sk σ k:=by
 cases hx:σ.get? h with
 | none=>rw[I7 hx]
 | some x =>
  unfold sk;rw[De hx];split
  · rename_i e;subst e;rw[hx];rfl
  rfl
theorem GZ {b:Int} (hx:σ.get? h=some x) (k:Int):held (bump σ h b) k=if k=h then wrap64 (x.1.held+b) else held σ k:=by
 unfold held nd;rw[De hx];split<;>rfl
theorem Gj (σ:AG Nd) (h b:Int):(bump σ h b).room=σ.room:=by
 unfold Store.bump;split
 · unfold AG.set
   cases σ.get? h<;>rfl
 rfl
theorem I8:∀(l:List Nat) (m x:Nat),l[m]?=some x→x≤l.sum
 | [],m,x,h=>by simp at h
 | a::l,0,x,h=>by simp at h;subst h;simp
 | a::l,m+1,x,h=>by have:=I8 l m x (by simpa using h);simp only[List.sum_cons];omega
theorem count_le (hx:σ.get? h=some x):x.2≤total σ:=by
 obtain⟨m,rfl,hm,_,_⟩:=AG.Ac hx;exact I8 _ m x.2 (by simp[hm])
theorem ER {pile:List Int} (hs:Sound σ pile) (hx:σ.get? h=some x):x.1.held≤x.2:=by
 have:=hs.counts h x hx;omega
theorem Jd {y:Int} (h0 : -1≤y) (h1:y≤1073741825):wrap64 y=y:=by unfold wrap64;omega
theorem Jl (hs:Sound σ []) (hx:σ.get? h=some x) (hc:x.2<1073741824) :
 (Au σ h).1=0∧(∀k,sk (Au σ h).2 k=sk σ k)∧(∀k,held (Au σ h).2 k=if k=h then held σ h+1 else held σ k) ∧
  live (Au σ h).2=live σ∧total (Au σ h).2=total σ+1∧(Au σ h).2.room=σ.room:=by
 obtain⟨m,rfl,hm,h0,hlt⟩:=AG.Ac hx;have hh:=hs.held _ x hx;have hhc:=ER hs hx;have hst:σ.hold ((m:Int)+1)=(0,σ.setAt ((m:Int)+1) (x.1,x.2+1)):=by unfold AG.hold;rw[hx];simp only;rw[if_neg (by omega)]
 have hho:Au σ ((m:Int)+1)=(0,bump (σ.setAt ((m:Int)+1) (x.1,x.2+1)) ((m:Int)+1) 1):=by unfold Au;rw[hst];simp only[if_pos]
 have hget:∀k,(σ.setAt ((m:Int)+1) (x.1,x.2+1)).get? k=if k=(m:Int)+1 then some (x.1,x.2+1) else σ.get? k:=fun k=>by
  have:=DG hlt (x.1,x.2+1) σ.free k;rw[if_neg (show ¬((x.1,x.2+1):Nd×Nat).2=0 by simp)] at this;simp only[AG.setAt,show((m:Int)+1-1).toNat=m by omega];exact this
 have hx':(σ.setAt ((m:Int)+1) (x.1,x.2+1)).get? ((m:Int)+1)=some (x.1,x.2+1):=by rw[hget,if_pos rfl]
 rw[hho];refine⟨rfl,fun k=>?_,fun k=>?_,?_,?_,?_⟩
 · simp only
   rw[Hr];unfold sk;rw[hget];split
   · rename_i e;subst e;rw[hx];rfl
   rfl
 · simp only
   rw[GZ hx'];split
   · rw[Br hx];exact Jd (by simp only;omega) (by simp only;omega)
   rename_i e;unfold held nd;rw[hget,if_neg e]
 · simp only
   rw[FH];unfold live;simp only[AG.setAt,show((m:Int)+1-1).toNat=m by omega];have:=countP_set (fun s:Nd×Nat=>s.2 != 0) σ.slots m x (x.1,x.2+1) hm;have h2:(x.2 != 0)=true:=by simpa using h0
   have h3:(x.2+1 != 0)=true:=by simp
   simp only[h2,h3,if_true] at this;omega
 · simp only
   rw[Fe];unfold total;simp only[AG.setAt,show((m:Int)+1-1).toNat=m by omega,List.map_set];have:=Fc (σ.slots.map (·.2)) m x.2 (x.2+1) (by simp[hm]);omega
 simp only;rw[Gj];rfl
theorem LN (hw:σ.WF (fun _=>True)) (hu:σ.used<σ.room) (x:Nd):(σ.take x).2.1=0∧∃m:Nat,(σ.take x).1=m+1∧σ.get? (m+1)=none ∧
 (∀k,(σ.take x).2.2.get? k=if k=m+1 then some (x,1) else σ.get? k)∧live (σ.take x).2.2=live σ+1∧total (σ.take x).2.2=total σ+1∧(σ.take x).2.2.room=σ.room:=by
 rcases FQ hw x with⟨h1,h2⟩|⟨m,h1,h2,h3,h4,h5,h6⟩
 · exfalso
   unfold AG.take at h1;rw[if_neg (by omega)] at h1;cases hg:σ.free.getLast?<;>rw[hg] at h1<;>exact h1 rfl
 refine⟨h2,m,h1,h3,h4,?_⟩;unfold AG.take;rw[if_neg (by omega)];cases hg:σ.free.getLast? with
 | none=>simp[live,total]
 | some n =>
  have hn:n∈σ.free:=List.mem_of_getLast? hg;obtain⟨q1,v,q2⟩:=hw.free n hn;simp only;refine⟨?_,?_,trivial⟩
  · have:=countP_set (fun s:Nd×Nat=>s.2 != 0) σ.slots (n-1) (v,0) (x,1) q2
    simp at this;unfold live;exact this
  have:=Fc (σ.slots.map (·.2)) (n-1) 0 1 (by simp[q2]);unfold total;simp only[List.map_set];omega
theorem J9 (hs:Sound σ []) (hu:σ.used<σ.room) (key value:List UInt8) (v:Value) (hv:value.length≤1024) :
 (As σ key value v).2.1=0∧(As σ key value v).1≠0∧sk σ (As σ key value v).1=none ∧
  (∀k,sk (As σ key value v).2.2 k=if k=(As σ key value v).1 then some (stat (Nd.leaf (Tag.D4 key (Tag.Bb value)) key (Tag.Bb value) value v)) else sk σ k) ∧
  (∀k,held (As σ key value v).2.2 k=if k=(As σ key value v).1 then 1 else held σ k) ∧
  live (As σ key value v).2.2=live σ+1∧total (As σ key value v).2.2=total σ+1∧(As σ key value v).2.2.room=σ.room:=by
 unfold As;rw[if_neg (by omega)];obtain⟨h0,m,h1,h2,h3,h4,h5,h6⟩:=LN hs.wf hu (Nd.leaf (Tag.D4 key (Tag.Bb value)) key (Tag.Bb value) value v);rw[h1];refine⟨h0,by omega,MW h2,fun k=>?_,fun k=>?_,h4,h5,h6⟩
 · unfold sk
   rw[h3];split<;>rfl
 unfold held nd;rw[h3];split<;>rfl
structure Cs (σ:AG Nd) (h:Int):Prop where
 ok:h=0∨1≤held σ h
theorem Cs.PZ (hk:Cs σ h):¬Bf σ h:=by
 rintro⟨h0,hb⟩;rcases hk.ok with h1|h1
 · exact h0 h1
 obtain⟨x,hx,hx1⟩:=Bd h1;rcases hb with hb|hb
 · rw[CF hx] at hb;cases hb
 rw[Ap hx] at hb;omega
theorem GL (hs:Sound σ []) (hu:σ.used<σ.room) {d l r:Int} (hd0:0≤d) (hd1:d≤255) (hl:Cs σ l) (hr:Cs σ r) (hf:fitsB d l r (nd σ l) (nd σ r)=true) :
 (Ag σ d l r).2.1=0∧(Ag σ d l r).1≠0∧sk σ (Ag σ d l r).1=none ∧
  (∀k,sk (Ag σ d l r).2.2 k=if k=(Ag σ d l r).1 then some (stat (BV σ d l r)) else sk σ k) ∧
  (∀k,held (Ag σ d l r).2.2 k=if k=(Ag σ d l r).1 then 1 else if k≠0∧(k=l∨k=r) then held σ k-1 else held σ k) ∧
  live (Ag σ d l r).2.2=live σ+1∧total (Ag σ d l r).2.2=total σ+1∧(Ag σ d l r).2.2.room=σ.room:=by
 obtain⟨h0,m,h1,h2,h3,h4,h5,h6⟩:=LN hs.wf hu (BV σ d l r)
 have he:Ag σ d l r=((m:Int)+1,0,bump (bump (σ.take (BV σ d l r)).2.2 l (-1)) r (-1)):=by
  unfold Ag;rw[if_neg (by omega),if_neg (fun h=>h.elim hl.PZ hr.PZ),if_neg (by rw[hf];simp),if_neg (by rw[h0];simp),h1]
 rw[he];obtain⟨τ,hτ⟩:∃τ,τ=(σ.take (BV σ d l r)).2.2:=⟨_,rfl⟩
 rw[←hτ] at h3 h4 h5 h6 ⊢;have hne:∀k z,σ.get? k=some z→k≠m+1:=fun k z hz e=>by rw[e,h2] at hz;cases hz
 have hwp:∀k z,σ.get? k=some z→1≤z.1.held→wrap64 (z.1.held + -1)=z.1.held-1:=fun k z hz hz1=>by
  obtain⟨j,hj,hj1,_,_⟩:=AG.Ac hz;have q1:=hs.wf.counts z (List.mem_of_getElem? hj1);have q2:=ER hs hz;rw[Jd (by omega) (by omega)];omega
 have hlr:l≠0→l≠r:=fun hl0 e=>by
  subst e;unfold fitsB at hf;rw[if_neg hl0,if_neg hl0] at hf;simp at hf;have h5:=(EU hf.1 (by omega)).2;have h6:=(EU hf.2.1 (by omega)).2;omega
 have hheld0:∀k,held τ k=if k=m+1 then 1 else held σ k:=fun k=>by
  unfold held nd;rw[h3];split<;>rfl
 have hsk0:∀k,sk τ k=if k=m+1 then some (stat (BV σ d l r)) else sk σ k:=fun k=>by
  unfold sk;rw[h3];split<;>rfl
 have hL:∀k,held (bump τ l (-1)) k=if k≠0∧k=l then held σ k-1 else held τ k:=fun k=>by
  rcases hl.ok with e|e
  · rw[e,show bump τ 0 (-1)=τ from rfl,if_neg (by rintro⟨p,q⟩;exact p q)]
  obtain⟨x,hx,hx1⟩:=Bd e;have hx':τ.get? l=some x:=by rw[h3,if_neg (hne _ _ hx)];exact hx
  rw[GZ hx'];by_cases hk:k=l
  · subst hk
    rw[if_pos rfl,if_pos ⟨Jk hx,rfl⟩,hwp _ _ hx hx1,Br hx]
  rw[if_neg hk,if_neg (fun h=>hk h.2)]
 have hR:∀k,held (bump (bump τ l (-1)) r (-1)) k=if k≠0∧k=r then held σ k-1 else held (bump τ l (-1)) k:=fun k=>by
  rcases hr.ok with e|e
  · rw[e,show bump (bump τ l (-1)) 0 (-1)=bump τ l (-1) from rfl,if_neg (by rintro⟨p,q⟩;exact p q)]
  obtain⟨x,hx,hx1⟩:=Bd e;have hx0:=Jk hx
  have hx':(bump τ l (-1)).get? r=some x:=by
   have hx1':τ.get? r=some x:=by rw[h3,if_neg (hne _ _ hx)];exact hx
   cases hg:τ.get? l with
   | none=>rw[I7 hg];exact hx1'
   | some z =>
    have hl0:=Jk hg;rw[De hg,if_neg (fun e=>hlr hl0 e.symm)];exact hx1'
  rw[GZ hx'];by_cases hk:k=r
  · subst hk
    rw[if_pos rfl,if_pos ⟨Jk hx,rfl⟩,hwp _ _ hx hx1,Br hx]
  rw[if_neg hk,if_neg (fun h=>hk h.2)]
 refine⟨rfl,by simp only;omega,MW h2,fun k=>?_,fun k=>?_,?_,?_,?_⟩
 · simp only
   rw[Hr,Hr,hsk0]
 · simp only
   rw[hR,hL,hheld0];by_cases hk:k=m+1
   · have hkl:k≠0∧k=l→False:=fun ⟨_,e⟩=>by
      rcases hl.ok with e0|e0
      · omega
      obtain⟨x,hx,_⟩:=Bd e0;exact hne _ _ hx (by omega)
     have hkr:k≠0∧k=r→False:=fun ⟨_,e⟩=>by
      rcases hr.ok with e0|e0
      · omega
      obtain⟨x,hx,_⟩:=Bd e0;exact hne _ _ hx (by omega)
     rw[if_neg hkr,if_neg hkl];simp[hk]
   simp only[if_neg hk];by_cases h7:k≠0∧k=r
   · rw[if_pos h7,if_pos ⟨h7.1,.inr h7.2⟩]
   rw[if_neg h7];by_cases h8:k≠0∧k=l
   · rw[if_pos h8,if_pos ⟨h8.1,.inl h8.2⟩]
   rw[if_neg h8,if_neg (fun ⟨p,q⟩=>q.elim (fun e=>h8 ⟨p,e⟩) (fun e=>h7 ⟨p,e⟩))]
 · simp only;rw[FH,FH];exact h4
 · simp only;rw[Fe,Fe];exact h5
 simp only;rw[Gj,Gj];exact h6
theorem J7 (hk:k≠h):(σ.drop Nd.zero h).2.2.get? k=σ.get? k:=by
 cases hx:σ.get? h with
 | none=>rw[Ek hx]
 | some x =>
  obtain⟨m,rfl,hm,h0,hlt⟩:=AG.Ac hx;unfold AG.drop;rw[hx];simp only;by_cases h1:x.2=1
  · rw[if_pos h1]
    have:=DG hlt (Nd.zero,0) (σ.free ++ [((m:Int)+1).toNat]) k;simp only[AG.setAt,show((m:Int)+1-1).toNat=m by omega];rw[this,if_neg hk]
  rw[if_neg h1];have:=DG hlt (x.1,x.2-1) σ.free k;simp only[AG.setAt,show((m:Int)+1-1).toNat=m by omega];rw[this,if_neg hk]
theorem Oj (hx:σ.get? h=some x) (h1:x.2≠1):(σ.drop Nd.zero h).1=false∧(σ.drop Nd.zero h).2.2.get? h=some (x.1,x.2-1):=by
 obtain⟨m,rfl,hm,h0,hlt⟩:=AG.Ac hx;unfold AG.drop;rw[hx];simp only;rw[if_neg h1];have:=DG hlt (x.1,x.2-1) σ.free ((m:Int)+1);simp only[AG.setAt,show((m:Int)+1-1).toNat=m by omega];refine⟨trivial,?_⟩;rw[this,if_pos rfl,if_neg (by simp only;omega)]
theorem Lc (σ:AG Nd) (h:Int):(σ.drop Nd.zero h).2.2.room=σ.room:=by
 unfold AG.drop;cases σ.get? h with
 | none=>rfl
 | some x=>simp only;split<;>rfl
theorem OP (σ:AG Nd) (st:List Int) (f:Nat):(sweep σ st f).2.room=σ.room:=by
 induction σ,st,f using sweep.induct with
 | case1 σ f=>rw[CK]
 | case2 σ f h rest hd ih=>rw[CE hd,ih,Lc]
 | case3 σ f h rest hd ih=>rw[CD (by simpa using hd),ih,Lc]
theorem O2 (σ:AG Nd) (st:List Int) (f:Nat) (hs:Sound σ st):∀k x,σ.get? k=some x→1≤x.1.held→∃c,(sweep σ st f).2.get? k=some (x.1,c):=by
 induction σ,st,f using sweep.induct with
 | case1 σ f=>intro k x hx _;rw[CK];exact⟨x.2,hx⟩
 | case2 σ f h rest hd ih =>
  intro k x hx h1;rw[CE hd];have hs1:=hs.dropped;rw[if_pos hd] at hs1;by_cases hk:k=h
  · exfalso
    subst hk;obtain⟨z,hz,hz1⟩:=Eg hd;rw[hx] at hz;cases hz;have:=hs.counts k x hx;rw[List.count_cons_self] at this;omega
  exact ih hs1 k x (by rw[J7 hk];exact hx) h1
 | case3 σ f h rest hd ih =>
  intro k x hx h1;have hd:(σ.drop Nd.zero h).1=false:=by simpa using hd
  rw[CD hd];have hs1:=hs.dropped;rw[if_neg (by rw[hd];simp)] at hs1;by_cases hk:k=h
  · subst hk
    have hne:x.2≠1:=fun e=>by
     have:(σ.drop Nd.zero k).1=true:=by unfold AG.drop;rw[hx];simp only;rw[if_pos e]
     rw[hd] at this;cases this
    obtain⟨c,hc⟩:=ih hs1 k (x.1,x.2-1) (Oj hx hne).2 h1;exact⟨c,hc⟩
  exact ih hs1 k x (by rw[J7 hk];exact hx) h1
theorem Ea (hs:Sound σ []) (hh:1≤held σ h) :
 (Aw σ h).2.1=0∧Sound (Aw σ h).2.2 []∧(∀k,sk (Aw σ h).2.2 k=none∨sk (Aw σ h).2.2 k=sk σ k) ∧
  (∀k,k≠h→1≤held σ k→sk (Aw σ h).2.2 k=sk σ k∧held (Aw σ h).2.2 k=held σ k) ∧
  (2≤held σ h→sk (Aw σ h).2.2 h=sk σ h∧held (Aw σ h).2.2 h=held σ h-1) ∧
  live (Aw σ h).2.2≤live σ∧total (Aw σ h).2.2≤total σ∧(Aw σ h).2.2.room=σ.room:=by
 obtain⟨x,hx,hx1⟩:=Bd hh;obtain⟨g1,g2,g3,g4,g5⟩:=Mx hs h;have hc:has σ h=true∧(nd σ h).held≠0:=⟨CF hx,by rw[Ap hx];omega⟩
 have hde:Aw σ h=((((sweep (bump σ h (-1)) [h] 0).1:Nat):Int),(0:Int),(sweep (bump σ h (-1)) [h] 0).2):=by unfold Aw;rw[if_pos hc]
 have hs1:Sound (bump σ h (-1)) [h]:=hs.bump hx (by omega) (by omega) (by simp) (fun k hk=>by simp[Ne.symm hk]);obtain⟨q1,q2,q3,q4⟩:=Ej _ _ 0 hs1;have hsh:=O2 _ _ 0 hs1
 have hcm:x.1.held≤1073741824:=by
  obtain⟨j,hj,hj1,_,_⟩:=AG.Ac hx;have q1:=hs.wf.counts x (List.mem_of_getElem? hj1);have q2:=ER hs hx;omega
 have hbx:(bump σ h (-1)).get? h=some (BC x.1 (wrap64 (x.1.held + -1)),x.2):=by rw[De hx,if_pos rfl]
 refine⟨by rw[hde],g1,fun k=>?_,fun k hk hk1=>?_,fun h2=>?_,?_,g3,?_⟩
 · rw[hde]
   simp only;cases hg:(sweep (bump σ h (-1)) [h] 0).2.get? k with
   | none=>exact .inl (MW hg)
   | some y =>
    right;obtain⟨c,hy⟩:=q4 k y hg;rw[Bl hg, ←Hr σ h (-1) k,Bl hy]
 · obtain⟨y,hy,hy1⟩:=Bd hk1
   have hy':(bump σ h (-1)).get? k=some y:=by rw[De hx,if_neg hk];exact hy
   obtain⟨c,hc'⟩:=hsh k y hy' hy1;rw[hde];simp only;rw[Bl hc',Bl hy,Br hc',Br hy];exact⟨rfl,rfl⟩
 · rw[Br hx] at h2
   have hw:wrap64 (x.1.held + -1)=x.1.held-1:=by rw[Jd (by omega) (by omega)];omega
   rw[hw] at hbx;obtain⟨c,hc'⟩:=hsh h _ hbx (by simp only[BC];omega);rw[hde];simp only;rw[Bl hc',Bl hx,Br hc',Br hx];exact⟨rfl,rfl⟩
 · have:live (Aw σ h).2.2≤live (bump σ h (-1)):=by rw[hde];simp only;omega
   rw[FH] at this;exact this
 rw[hde];simp only;rw[OP,Gj]
end
abbrev View:=Int→Option Nd
def ndF (f:View) (h:Int):Nd:=(f h).getD Nd.zero
def Ky (f:View) (h:Int):List UInt8:=if h=0 then Tag.Hi else (ndF f h).digest
theorem Dj (σ:AG Nd) (h:Int):ndF (sk σ) h=stat (nd σ h):=by
 unfold ndF sk nd;cases σ.get? h<;>rfl
theorem JN (σ:AG Nd) (h:Int):CB σ h=Ky (sk σ) h:=by unfold CB Ky;rw[Dj];rfl
theorem Bn {f:View} {h:Int} {n:Nd} (hn:f h=some n):ndF f h=n:=by unfold ndF;rw[hn];rfl
theorem Ib (σ:AG Nd) (d l r:Int):fitsB d l r (nd σ l) (nd σ r)=fitsB d l r (ndF (sk σ) l) (ndF (sk σ) r):=by rw[Dj,Dj];rfl
structure Tb (n:Nd):Prop where
 left:n.left=0
 right:n.right=0
 depth:n.depth = -1
 size:n.size=1
 key:n.key.length=32
 value:n.value.length≤1024
 hash:n.hash=Tag.Bb n.value
 digest:n.digest=Tag.D4 n.key (Tag.Bb n.value)
structure IG (f:View) (n:Nd):Prop where
 d0:0≤n.depth
 d1:n.depth≤255
 left:n.left=0∨∃y,f n.left=some y
 right:n.right=0∨∃y,f n.right=some y
 fits:fitsB n.depth n.left n.right (ndF f n.left) (ndF f n.right)=true
 key:n.key=Path.first (if n.left=0 then (ndF f n.right).key else (ndF f n.left).key) n.depth
 digest:n.digest=Tag.GO (Ky f n.left) (Ky f n.right)
 size:n.size=wrap64 ((ndF f n.left).size+(ndF f n.right).size)
 len:n.key.length=32
def F8 (f:View) (n:Nd):Prop:=(n.kind=1∧Tb n)∨(n.kind=2∧IG f n)
structure Fit (f:View):Prop where
 zero:f 0=none
 all:∀h n,f h=some n→F8 f n
theorem IG.agree {f g:View} {n:Nd} (h:IG f n) (hl:g n.left=f n.left) (hr:g n.right=f n.right):IG g n:=by
 have el:ndF g n.left=ndF f n.left:=by unfold ndF;rw[hl]
 have er:ndF g n.right=ndF f n.right:=by unfold ndF;rw[hr]
 have dl:Ky g n.left=Ky f n.left:=by unfold Ky;rw[el]
 have dr:Ky g n.right=Ky f n.right:=by unfold Ky;rw[er]
 exact⟨h.d0,h.d1,by rw[hl];exact h.left,by rw[hr];exact h.right,by rw[el,er];exact h.fits,by rw[el,er];exact h.key,by rw[dl,dr];exact h.digest,by rw[el,er];exact h.size,h.len⟩
theorem F8.key {f:View} {n:Nd} (h:F8 f n):n.key.length=32:=h.elim (fun h=>h.2.key) (fun h=>h.2.len)
theorem Fit.inner {f:View} (hf:Fit f) {h:Int} {n:Nd} (hn:f h=some n) (hk:n.kind=2):IG f n:=by
 rcases hf.all h n hn with⟨h1,_⟩|⟨_,h2⟩
 · omega
 exact h2
theorem Fit.leaf {f:View} (hf:Fit f) {h:Int} {n:Nd} (hn:f h=some n) (hk:n.kind≠2):n.kind=1∧Tb n:=by
 rcases hf.all h n hn with h1|⟨h2,_⟩
 · exact h1
 exact absurd h2 hk
theorem Fit.ne {f:View} (hf:Fit f) {h:Int} {n:Nd} (hn:f h=some n):h≠0:=fun e=>by rw[e,hf.zero] at hn;cases hn
theorem Fit.grow {f g:View} (hf:Fit f) {h:Int} {n:Nd} (h0:h≠0) (hn:f h=none) (hg:∀k,g k=if k=h then some n else f k) (ho:F8 f n):Fit g:=by
 have hside:∀k,(k=0∨∃y,f k=some y)→g k=f k:=fun k hk=>by
  rw[hg,if_neg];rintro rfl;rcases hk with hk|⟨y,hy⟩
  · exact h0 hk
  rw[hn] at hy;cases hy
 have hok:∀m,F8 f m→F8 g m:=fun m hm=>by
  rcases hm with h1|⟨h1,h2⟩
  · exact .inl h1
  exact .inr ⟨h1,h2.agree (hside _ h2.left) (hside _ h2.right)⟩
 refine⟨by rw[hg,if_neg (Ne.symm h0)];exact hf.zero,fun k m hk=>?_⟩;rw[hg] at hk;by_cases e:k=h
 · rw[if_pos e] at hk;cases hk;exact hok n ho
 rw[if_neg e] at hk;exact hok m (hf.all k m hk)
theorem Fit.shrink {f g:View} (hf:Fit f) (hg:∀k,g k=none∨g k=f k) (hc:∀h n,g h=some n→(n.left=0∨∃y,g n.left=some y)∧(n.right=0∨∃y,g n.right=some y)):Fit g:=by
 have hz:g 0=none:=(hg 0).elim id (fun h=>h.trans hf.zero)
 have hside:∀k,(k=0∨∃y,g k=some y)→g k=f k:=fun k hk=>by
  rcases hk with rfl|⟨y,hy⟩
  · rw[hz,hf.zero]
  rcases hg k with h|h
  · rw[h] at hy;cases hy
  exact h
 refine⟨hz,fun h n hn=>?_⟩
 have hfn:f h=some n:=by
  rcases hg h with e|e
  · rw[e] at hn;cases hn
  rw[←e];exact hn
 rcases hf.all h n hfn with h1|⟨h1,h2⟩
 · exact .inl h1
 exact .inr ⟨h1,h2.agree (hside _ (hc h n hn).1) (hside _ (hc h n hn).2)⟩
theorem OX {d l r:Int} {L R:Nd} (h:fitsB d l r L R=true) (hl:l≠0):CO L d 0=true:=by
 unfold fitsB at h;rw[if_neg hl] at h;split at h
 · simp at h;exact h.2
 simp at h;exact h.1
theorem Ov {d l r:Int} {L R:Nd} (h:fitsB d l r L R=true) (hr:r≠0):CO R d 1=true:=by
 unfold fitsB at h;by_cases hl:l=0
 · rw[if_pos hl,if_neg hr] at h;simp at h;exact h.2
 rw[if_neg hl,if_neg hr] at h;simp at h;exact h.2.1
theorem RZ {d l r:Int} {L R:Nd} (h:fitsB d l r L R=true) (hl:l≠0) (hr:r≠0):d≤(common L.key R.key:Nat):=by
 unfold fitsB at h;rw[if_neg hl,if_neg hr] at h;simp at h;exact h.2.2
theorem JH {d l r:Int} {L R:Nd} (h:fitsB d l r L R=true) (hr:r=0):l≠0∧L.kind=2:=by
 unfold fitsB at h;by_cases hl:l=0
 · rw[if_pos hl,if_pos hr] at h;cases h
 rw[if_neg hl,if_pos hr] at h;simp at h;exact⟨hl,h.1⟩
theorem En {d l r:Int} {L R:Nd} (h:fitsB d l r L R=true) (hl:l=0):r≠0∧R.kind=2:=by
 unfold fitsB at h;rw[if_pos hl] at h;by_cases hr:r=0
 · rw[if_pos hr] at h;cases h
 simp[hr] at h;exact⟨hr,h.1⟩
theorem KO {n:Nd} {d b:Int} (h:CO n d b=true) (hk:n.kind=2):n.depth=d+1:=by
 unfold CO JM at h;by_cases hx:n.depth=d+1
 · exact hx
 simp[hk,hx] at h
theorem FE {n:Nd} {d b:Int} (h:CO n d b=true):bit n.key d=b:=by
 unfold CO at h;split at h
 · cases h
 simpa using h
theorem JW {n:Nd} {d b:Int} (hk:n.kind=2→n.depth=d+1) (hb:bit n.key d=b):CO n d b=true:=by
 unfold CO JM;by_cases h2:n.kind=2
 · simp[h2,hk h2,hb]
 simp[h2,hb]
def Pre (a b:List UInt8) (d:Nat):Prop:=∀i,i<d→Ao a i=Ao b i
theorem Pre.symm {a b:List UInt8} {d:Nat} (h:Pre a b d):Pre b a d:=fun i hi=>(h i hi).symm
theorem Pre.trans {a b c:List UInt8} {d:Nat} (h:Pre a b d) (h2:Pre b c d):Pre a c d:=fun i hi=>(h i hi).trans (h2 i hi)
theorem Pre.less {a b:List UInt8} {d e:Nat} (h:Pre a b d) (he:e≤d):Pre a b e:=fun i hi=>h i (by omega)
theorem Pre.next {a b:List UInt8} {d:Nat} (h:Pre a b d) (hb:Ao a d=Ao b d):Pre a b (d+1):=fun i hi=>by
 by_cases e:i=d
 · rw[e];exact hb
 exact h i (by omega)
theorem It (x:UInt8) (i:Nat):Ck x i=if x.toNat.testBit (7-i) then 1 else 0:=by
 unfold Ck;rw[Nat.testBit_eq_decide_div_mod_eq];have:=Nat.mod_two_eq_zero_or_one (x.toNat / 2 ^ (7-i));by_cases h:x.toNat / 2 ^ (7-i) % 2=1
 · simp[h]
 simp[h];omega
theorem QA:∀(x:Fin 256),x.val≠0→lead (UInt8.ofNat x.val)<8∧(∀i:Fin 8,i.val<lead (UInt8.ofNat x.val)→Ck (UInt8.ofNat x.val) i.val=0)∧Ck (UInt8.ofNat x.val) (lead (UInt8.ofNat x.val))=1:=by decide +kernel
theorem RT (x:UInt8) (h:x≠0):lead x<8∧(∀i,i<lead x→Ck x i=0)∧Ck x (lead x)=1:=by
 have h0:x.toNat≠0:=fun e=>h (UInt8.toNat_inj.1 (by simpa using e))
 obtain⟨h1,h2,h3⟩:=QA ⟨x.toNat,x.toNat_lt⟩ h0;simp only[UInt8.ofNat_toNat] at h1 h2 h3;exact⟨h1,fun i hi=>h2 ⟨i,by omega⟩ hi,h3⟩
theorem Na (x y:UInt8) (i:Nat):Ck (x ^^^ y) i=0↔Ck x i=Ck y i:=by
 rw[It,It,It,UInt8.toNat_xor,Nat.testBit_xor];cases x.toNat.testBit (7-i)<;>cases y.toNat.testBit (7-i)<;>simp
theorem Gc (x:UInt8) (l:List UInt8) (d:Nat):Ao (x::l) (d+8)=Ao l d:=by
 unfold Ao;rw[show(d+8) / 8=d / 8+1 by omega,show(d+8) % 8=d % 8 by omega];rfl
theorem ET (x:UInt8) (l:List UInt8) (d:Nat) (hd:d<8):Ao (x::l) d=Ck x d:=by
 unfold Ao;rw[show d / 8=0 by omega,show d % 8=d by omega];rfl
theorem CA:∀(a b:List UInt8),a.length=b.length→a≠b→common a b<8*a.length∧Pre a b (common a b)∧Ao a (common a b)≠Ao b (common a b)
 | [],[],_,h=>absurd rfl h
 | [],_::_,hl,_=>by cases hl
 | _::_,[],hl,_=>by cases hl
 | x::a,y::b,hl,hne=>by
  unfold common;by_cases e:x=y
  · subst e
    rw[if_pos rfl];have hne':a≠b:=fun h=>hne (by rw[h])
    obtain⟨h1,h2,h3⟩:=CA a b (by simpa using hl) hne';refine⟨by simp only[List.length_cons];omega,fun i hi=>?_,?_⟩
    · rcases Nat.lt_or_ge i 8 with h8|h8
      · rw[ET _ _ _ h8,ET _ _ _ h8]
      obtain⟨j,rfl⟩:∃j,i=j+8:=⟨i-8,by omega⟩
      rw[Gc,Gc];exact h2 j (by omega)
    rw[Nat.add_comm,Gc,Gc];exact h3
  rw[if_neg e];have hz:x ^^^ y≠0:=fun h=>e (UInt8.xor_eq_zero_iff.1 h)
  obtain⟨h1,h2,h3⟩:=RT (x ^^^ y) hz;refine⟨by simp only[List.length_cons];omega,fun i hi=>?_,?_⟩
  · rw[ET _ _ _ (by omega),ET _ _ _ (by omega)]
    exact(Na x y i).1 (h2 i hi)
  rw[ET _ _ _ h1,ET _ _ _ h1];intro h;rw[(Na x y _).2 h] at h3;cases h3
theorem Cz {a b:List UInt8} {d:Nat} (ha:a.length=32) (hb:b.length=32) (hd:d≤256) (h:Pre a b d):d≤common a b:=by
 by_cases e:a=b
 · subst e;rw[D6];omega
 obtain⟨h1,h2,h3⟩:=CA a b (by omega) e;rcases Nat.lt_or_ge (common a b) d with hlt|hge
 · exact absurd (h _ hlt) h3
 exact hge
theorem Ec {a b:List UInt8} {d:Nat} (ha:a.length=32) (hb:b.length=32) (h:d≤common a b):Pre a b d:=by
 by_cases e:a=b
 · subst e;exact fun _ _=>rfl
 exact(CA a b (by omega) e).2.1.less h
theorem P8:∀(x:Fin 256) (k i:Fin 8),i.val<k.val→Ck (UInt8.ofNat ((UInt8.ofNat x.val).toNat / 2 ^ (8-k.val)*2 ^ (8-k.val))) i.val=Ck (UInt8.ofNat x.val) i.val:=by decide +kernel
theorem Rr (x:UInt8) (k:Int) (i:Nat) (hi:(i:Int)<k) (h8:i<8):Ck (kept x k) i=Ck x i:=by
 unfold kept;rw[if_neg (by omega)];by_cases h:k<8
 · rw[if_pos h]
   have:=P8 ⟨x.toNat,x.toNat_lt⟩ ⟨k.toNat,by omega⟩ ⟨i,h8⟩ (by simp only;omega);simpa only[UInt8.ofNat_toNat] using this
 rw[if_neg h]
theorem Qf (k:List UInt8) (d i:Nat) (hi:i<d):Ao (Path.first k d) i=Ao k i:=by
 unfold Ao;cases hx:k[i / 8]? with
 | none =>
  have h1:(Path.first k (d:Int))[i / 8]?=none:=by
   rw[List.getElem?_eq_none_iff] at hx ⊢;rw[CN];exact hx
  simp only[List.getD_eq_getElem?_getD,hx,h1]
 | some x =>
  have h1:=Ex (d:Int) 0 k (i / 8) x hx;have h2:(Path.first k (d:Int))[i / 8]?=some (kept x ((d:Int)-8*(0+(i / 8:Nat)))):=h1;simp only[List.getD_eq_getElem?_getD,hx,h2,Option.getD_some];exact Rr x _ _ (by omega) (by omega)
theorem Gf (k:List UInt8) (d:Nat):Pre (Path.first k d) k d:=fun i hi=>Qf k d i hi
inductive Tr where
 | nil
 | leaf (k v:List UInt8)
 | node (l r:Tr)
def Tr.dig:Tr→List UInt8
 | .nil=>Tag.Hi
 | .leaf k v=>Tag.D4 k (Tag.Bb v)
 | .node l r=>Tag.GO l.dig r.dig
def Tr.isNode:Tr→Bool
 | .node _ _=>true
 | _=>false
def mk (k:List UInt8) (d:Nat) (own other:Tr):Tr:=if Ao k d=0 then .node own other else .node other own
theorem Ps (k:List UInt8) (d:Nat) (a b:Tr):(mk k d a b).isNode=true:=by unfold mk;split<;>rfl
def Ey (k:List UInt8) (lo:Nat):Nat→Tr→Tr
 | 0,t=>t
 | n+1,t=>Ey k lo n (mk k (lo+n) t .nil)
def ins (k v:List UInt8):Nat→Tr→Tr
 | _,.nil=>.leaf k v
 | d,.leaf k' v'=>if k'=k then .leaf k v else Ey k d (common k k'-d) (mk k (common k k') (.leaf k v) (.leaf k' v'))
 | d,.node l r=>if Ao k d=0 then .node (ins k v (d+1) l) r else .node l (ins k v (d+1) r)
inductive Rep (f:View):Int→Nat→Tr→Prop
 | nil {d:Nat}:Rep f 0 d .nil
 | leaf {h:Int} {d:Nat} {n:Nd} (hn:f h=some n) (hk:n.kind=1):Rep f h d (.leaf n.key n.value)
 | node {h:Int} {d:Nat} {n:Nd} {l r:Tr} (hn:f h=some n) (hk:n.kind=2) (hd:n.depth=(d:Nat)) (hl:Rep f n.left (d+1) l) (hr:Rep f n.right (d+1) r):Rep f h d (.node l r)
theorem Rep.grow {f g:View} {h:Int} {d:Nat} {t:Tr} (hr:Rep f h d t) (hg:∀k n,f k=some n→g k=some n):Rep g h d t:=by
 induction hr with
 | nil=>exact .nil
 | leaf hn hk=>exact .leaf (hg _ _ hn) hk
 | node hn hk hd _ _ ihl ihr=>exact .node (hg _ _ hn) hk hd ihl ihr
theorem Rep.shrink {f g:View} {h:Int} {d:Nat} {t:Tr} (hr:Rep f h d t) (hg:∀k,g k=none∨g k=f k)
 (hc:∀h n,g h=some n→(n.left=0∨∃y,g n.left=some y)∧(n.right=0∨∃y,g n.right=some y)) (h0:h=0∨∃n,g h=some n) (hz:f 0=none):Rep g h d t:=by
 have back:∀k n,f k=some n→(k=0∨∃m,g k=some m)→g k=some n:=fun k n hn hk=>by
  rcases hk with rfl|⟨m,hm⟩
  · rw[hz] at hn;cases hn
  rcases hg k with e|e
  · rw[e] at hm;cases hm
  rw[e];exact hn
 induction hr with
 | nil=>exact .nil
 | leaf hn hk=>exact .leaf (back _ _ hn h0) hk
 | node hn hk hd _ _ ihl ihr =>
  have:=back _ _ hn h0;exact .node this hk hd (ihl (hc _ _ this).1) (ihr (hc _ _ this).2)
theorem Rep.live {f:View} {h:Int} {d:Nat} {t:Tr} (hr:Rep f h d t):h=0∨∃n,f h=some n:=by
 cases hr with
 | nil=>exact .inl rfl
 | leaf hn _=>exact .inr ⟨_,hn⟩
 | node hn _ _ _ _=>exact .inr ⟨_,hn⟩
theorem Rep.det {f:View} (hz:f 0=none) {h:Int} {d:Nat} {t t':Tr} (hr:Rep f h d t) (hr':Rep f h d t'):t=t':=by
 induction hr generalizing t' with
 | nil =>
  cases hr' with
  | nil=>rfl
  | leaf hn _=>rw[hz] at hn;cases hn
  | node hn _ _ _ _=>rw[hz] at hn;cases hn
 | leaf hn hk =>
  cases hr' with
  | nil=>rw[hz] at hn;cases hn
  | leaf hn' _=>rw[hn] at hn';cases hn';rfl
  | node hn' hk' _ _ _=>rw[hn] at hn';cases hn';omega
 | node hn hk hd _ _ ihl ihr =>
  cases hr' with
  | nil=>rw[hz] at hn;cases hn
  | leaf hn' hk'=>rw[hn] at hn';cases hn';omega
  | node hn' _ _ hl' hr'=>rw[hn] at hn';cases hn';rw[ihl hl',ihr hr']
theorem Fit.kids {f:View} (hf:Fit f) {h:Int} {n:Nd} (hn:f h=some n) (hk:n.kind=2) :
 (∀y,f n.left=some y→(y.kind=2→y.depth=n.depth+1)∧bit y.key n.depth=0)∧(∀y,f n.right=some y→(y.kind=2→y.depth=n.depth+1)∧bit y.key n.depth=1):=by
 have hi:=hf.inner hn hk;refine⟨fun y hy=>?_,fun y hy=>?_⟩
 · have:=OX hi.fits (hf.ne hy)
   rw[Bn hy] at this;exact⟨KO this,FE this⟩
 have:=Ov hi.fits (hf.ne hy);rw[Bn hy] at this;exact⟨KO this,FE this⟩
theorem Rep.ex {f:View} (hf:Fit f):∀(m d:Nat) (h:Int),d+m=256→(h=0∨∃n,f h=some n∧(n.kind=2→n.depth=(d:Nat)))→∃t,Rep f h d t:=by
 intro m
 induction m with
 | zero =>
  rintro d h hd (rfl|⟨n,hn,hk⟩)
  · exact⟨_,.nil⟩
  by_cases h2:n.kind=2
  · have:=(hf.inner hn h2).d1
    have:=hk h2;omega
  exact⟨_,.leaf hn (hf.leaf hn h2).1⟩
 | succ m ih =>
  rintro d h hd (rfl|⟨n,hn,hk⟩)
  · exact⟨_,.nil⟩
  by_cases h2:n.kind=2
  · have hi:=hf.inner hn h2
    have hkd:=hf.kids hn h2;have e:=hk h2;obtain⟨tl,hl⟩:=ih (d+1) n.left (by omega) (hi.left.imp id fun ⟨y,hy⟩=>⟨y,hy,fun q=>by have:=(hkd.1 y hy).1 q;omega⟩);obtain⟨tr,hr⟩:=ih (d+1) n.right (by omega) (hi.right.imp id fun ⟨y,hy⟩=>⟨y,hy,fun q=>by have:=(hkd.2 y hy).1 q;omega⟩);exact⟨_,.node hn h2 e hl hr⟩
  exact⟨_,.leaf hn (hf.leaf hn h2).1⟩
inductive On (f:View) (k:List UInt8):Int→Nat→List Int→Int→Prop
 | stop {h:Int} {d:Nat} (h0:h=0∨∃n,f h=some n∧n.kind≠2):On f k h d [] h
 | step {h:Int} {d:Nat} {n:Nd} {l:List Int} {e:Int} (hn:f h=some n) (hk:n.kind=2) (hd:n.depth=(d:Nat)) (hr:On f k (if Ao k d=0 then n.left else n.right) (d+1) l e):On f k h d (h::l) e
theorem On.ex {f:View} {k:List UInt8} {h:Int} {d:Nat} {t:Tr} (hr:Rep f h d t):∃l e,On f k h d l e:=by
 induction hr with
 | nil=>exact⟨_,_,.stop (.inl rfl)⟩
 | leaf hn hk=>exact⟨_,_,.stop (.inr ⟨_,hn,by omega⟩)⟩
 | @node h d n l r hn hk hd _ _ ihl ihr =>
  by_cases hb:Ao k d=0
  · obtain⟨l,e,h⟩:=ihl
    exact⟨_,e,.step hn hk hd (by rw[if_pos hb];exact h)⟩
  obtain⟨l,e,h⟩:=ihr;exact⟨_,e,.step hn hk hd (by rw[if_neg hb];exact h)⟩
theorem On.len {f:View} (hf:Fit f) {k:List UInt8} {h:Int} {d:Nat} {l:List Int} {e:Int} (ho:On f k h d l e) (hd:d≤256):d+l.length≤256:=by
 induction ho with
 | stop _=>simpa using hd
 | step hn hk hde _ ih =>
  have:=(hf.inner hn hk).d1;have:=ih (by omega);simp only[List.length_cons];omega
theorem On.end_ {f:View} {k:List UInt8} {h:Int} {d:Nat} {l:List Int} {e:Int} (ho:On f k h d l e):e=0∨∃n,f e=some n∧n.kind≠2:=by
 induction ho with
 | stop h0=>exact h0
 | step _ _ _ _ ih=>exact ih
theorem Fit.pre {f:View} (hf:Fit f) {h:Int} {n:Nd} (hn:f h=some n) (hk:n.kind=2) {d:Nat} (hd:n.depth=(d:Nat)) {k:List UInt8} (hp:Pre n.key k d) :
 (∀y,f n.left=some y→Pre y.key k d)∧(∀y,f n.right=some y→Pre y.key k d):=by
 have hi:=hf.inner hn hk;have hkey:=hi.key;rw[hd] at hkey
 have h1:∀y,f n.left=some y→Pre y.key k d:=fun y hy=>by
  rw[if_neg (hf.ne hy),Bn hy] at hkey;exact((Gf y.key d).symm.trans (by rw[←hkey];exact hp))
 refine⟨h1,fun y hy=>?_⟩;by_cases hl:n.left=0
 · rw[if_pos hl,Bn hy] at hkey
   exact((Gf y.key d).symm.trans (by rw[←hkey];exact hp))
 obtain⟨z,hz⟩:=hi.left.resolve_left hl;have hc:=RZ hi.fits hl (hf.ne hy);rw[Bn hz,Bn hy,hd] at hc;exact(Ec (hf.all _ _ hz).key (hf.all _ _ hy).key (by omega)).symm.trans (h1 z hz)
theorem I0 {k:List UInt8} {d:Nat} (hd:d<256) {b:Nat} (h:bit k d=(b:Nat)):Ao k d=b:=by rw[Da hd] at h;omega
theorem Fit.way {f:View} (hf:Fit f) {h:Int} {n:Nd} (hn:f h=some n) (hk:n.kind=2) {d:Nat} (hd:n.depth=(d:Nat)) {k:List UInt8} (hp:Pre n.key k d) :
 (∀y,f (if Ao k d=0 then n.left else n.right)=some y→Pre y.key k (d+1))∧(∀y,f (if Ao k d=0 then n.right else n.left)=some y→Pre y.key k d∧Ao y.key d≠Ao k d):=by
 obtain⟨p1,p2⟩:=hf.pre hn hk hd hp;obtain⟨q1,q2⟩:=hf.kids hn hk;have hd1:=(hf.inner hn hk).d1;have hlt:d<256:=by omega
 have b0:∀y,f n.left=some y→Ao y.key d=0:=fun y hy=>I0 hlt (by have:=(q1 y hy).2;rw[hd] at this;exact this)
 have b1:∀y,f n.right=some y→Ao y.key d=1:=fun y hy=>I0 hlt (by have:=(q2 y hy).2;rw[hd] at this;exact this)
 by_cases hb:Ao k d=0
 · rw[if_pos hb,if_pos hb]
   exact⟨fun y hy=>(p1 y hy).next (by rw[hb,b0 y hy]),fun y hy=>⟨p2 y hy,by rw[hb,b1 y hy];decide⟩⟩
 have hb1:Ao k d=1:=(BX k d).resolve_left hb;rw[if_neg hb,if_neg hb];exact⟨fun y hy=>(p2 y hy).next (by rw[hb1,b1 y hy]),fun y hy=>⟨p1 y hy,by rw[hb1,b0 y hy];decide⟩⟩
theorem On.pre {f:View} (hf:Fit f) {k:List UInt8} {h:Int} {d:Nat} {l:List Int} {e:Int} (ho:On f k h d l e) (hp:∀n,f h=some n→Pre n.key k d):∀n,f e=some n→Pre n.key k (d+l.length):=by
 induction ho with
 | stop _=>simpa using hp
 | step hn hk hd _ ih =>
  intro n he;have:=ih (fun y hy=>(hf.way hn hk hd (hp _ hn)).1 y hy) n he;rw[List.length_cons,show ∀a b:Nat,a+(b+1)=a+1+b by omega];exact this
structure Good (σ:AG Nd):Prop where
 sound:Sound σ []
 fit:Fit (sk σ)
theorem Good.used {σ:AG Nd} (h:Good σ):σ.used=live σ:=Ik h.sound.wf
theorem Good.new (n:Nat) (h1:1≤n) (h2:n≤65536):Good ⟨n,[],[]⟩:=by
 refine⟨Sound.new n h1 h2,rfl,fun h m hm=>?_⟩;obtain⟨x,hx,_⟩:=Ev hm;have hg:(⟨n,[],[]⟩:AG Nd).get? h=none:=by unfold AG.get?;split<;>simp[Option.filter]
 rw[hg] at hx;cases hx
theorem Sound.closed {σ:AG Nd} (hs:Sound σ []):∀h n,sk σ h=some n→(n.left=0∨∃y,sk σ n.left=some y)∧(n.right=0∨∃y,sk σ n.right=some y):=fun h n hn=>by
 obtain⟨x,hx,rfl⟩:=Ev hn;refine⟨?_,?_⟩
 · by_cases h0:x.1.left=0
   · exact .inl h0
   obtain⟨y,hy,_⟩:=hs.left h x hx h0;exact .inr ⟨_,Bl hy⟩
 by_cases h0:x.1.right=0
 · exact .inl h0
 obtain⟨y,hy,_⟩:=hs.right h x hx h0;exact .inr ⟨_,Bl hy⟩
theorem Good.same {σ τ:AG Nd} (h:Good σ) (hs:Sound τ []) (he:∀k,sk τ k=sk σ k):Good τ:=⟨hs,by rw[show sk τ=sk σ from funext he];exact h.fit⟩
theorem Good.drop {σ:AG Nd} (h:Good σ) (n:Int):Good (Aw σ n).2.2:=by
 by_cases hh:1≤held σ n
 · obtain⟨_,g1,g2,_⟩:=Ea h.sound hh
   exact⟨g1,h.fit.shrink g2 g1.closed⟩
 have:Aw σ n=(0,7,σ):=by
  unfold Aw;rw[if_neg];rintro⟨p,q⟩;obtain⟨x,hx⟩:∃x,σ.get? n=some x:=Option.isSome_iff_exists.1 p;have h1:=h.sound.held n x hx;rw[Ap hx] at q;rw[Br hx] at hh;omega
 rw[this];exact h
theorem SY (σ:AG Nd) (n:Int):∀k,sk (Au σ n).2 k=sk σ k:=fun k=>by
 unfold Au;split
 · rename_i he
   simp only;rw[Hr];cases hx:σ.get? n with
   | none=>unfold AG.hold at he;rw[hx] at he;simp at he
   | some x =>
    obtain⟨m,rfl,hm,h0,hlt⟩:=AG.Ac hx;have hn:x.2≠1073741824:=fun e=>by unfold AG.hold at he;rw[hx] at he;simp[e] at he
    have hst:(σ.hold ((m:Int)+1)).2=σ.setAt ((m:Int)+1) (x.1,x.2+1):=by unfold AG.hold;rw[hx];simp only[if_neg hn]
    rw[hst];have:=DG hlt (x.1,x.2+1) σ.free k;rw[if_neg (show ¬((x.1,x.2+1):Nd×Nat).2=0 by simp)] at this;unfold sk;simp only[AG.setAt,show((m:Int)+1-1).toNat=m by omega];rw[this];split
    · rename_i e;subst e;rw[hx];rfl
    rfl
 rfl
theorem Good.hold {σ:AG Nd} (h:Good σ) (n:Int):Good (Au σ n).2:=h.same (NG h.sound n) (SY σ n)
theorem Mp (f:View) (key value:List UInt8) (v:Value) (hk:key.length=32) (hv:value.length≤1024):F8 f (stat (Nd.leaf (Tag.D4 key (Tag.Bb value)) key (Tag.Bb value) value v)) :=
 .inl ⟨rfl,rfl,rfl,rfl,rfl,hk,hv,rfl,rfl⟩
theorem Good.room {σ:AG Nd} (h:Good σ):σ.used≤σ.room:=by
 have:=h.sound.wf.len;unfold AG.used;omega
theorem LU {σ:AG Nd} {x:Nd} (h:¬σ.used<σ.room) (hr:σ.used≤σ.room):σ.take x=(0,9,σ):=by
 unfold AG.take;rw[if_pos (by omega)]
theorem Good.leaf {σ:AG Nd} (h:Good σ) (key value:List UInt8) (v:Value) (hk:key.length=32):Good (As σ key value v).2.2:=by
 refine⟨Nw h.sound key value v,?_⟩;by_cases hv:value.length≤1024
 · by_cases hu:σ.used<σ.room
   · obtain⟨h0,h1,h2,h3,_⟩:=J9 h.sound hu key value v hv
     exact h.fit.grow h1 h2 h3 (Mp _ key value v hk hv)
   have:(As σ key value v).2.2=σ:=by unfold As;rw[if_neg (by omega),LU hu h.room]
   rw[this];exact h.fit
 have:(As σ key value v).2.2=σ:=by unfold As;rw[if_pos (by omega)]
 rw[this];exact h.fit
theorem Rk {σ:AG Nd} (h:Good σ) {n:Int} {x:Nd×Nat} (hx:σ.get? n=some x):x.1.key.length=32:=(h.fit.all n _ (Bl hx)).key
theorem MO {σ:AG Nd} (h:Good σ) {d l r:Int} (hd0:0≤d) (hd1:d≤255) (hl:Cs σ l) (hr:Cs σ r) (hf:fitsB d l r (nd σ l) (nd σ r)=true):F8 (sk σ) (stat (BV σ d l r)):=by
 have there:∀k,Cs σ k→k=0∨∃y,sk σ k=some y:=fun k hk=>hk.ok.imp id fun h=>by
  obtain⟨x,hx,_⟩:=Bd h;exact⟨_,Bl hx⟩
 refine .inr ⟨rfl,hd0,hd1,there l hl,there r hr,?_,?_,?_,?_,?_⟩
 · rw[←Ib];exact hf
 · show Path.first (if l=0 then (nd σ r).key else (nd σ l).key) d=Path.first (if l=0 then (ndF (sk σ) r).key else (ndF (sk σ) l).key) d
   rw[Dj,Dj];rfl
 · show Tag.GO (CB σ l) (CB σ r)=_
   rw[JN,JN];rfl
 · show wrap64 ((nd σ l).size+(nd σ r).size)=wrap64 ((ndF (sk σ) l).size+(ndF (sk σ) r).size)
   rw[Dj,Dj];rfl
 show(Path.first (if l=0 then (nd σ r).key else (nd σ l).key) d).length=32
 rw[CN]
 have live:∀k,k≠0→Cs σ k→(nd σ k).key.length=32:=fun k h0 hk=>by
  obtain⟨x,hx,_⟩:=Bd (hk.ok.resolve_left h0);rw[Ap hx];exact Rk h hx
 by_cases h0:l=0
 · rw[if_pos h0];exact live r (En hf h0).1 hr
 rw[if_neg h0];exact live l h0 hl
theorem Good.inner {σ:AG Nd} (h:Good σ) (d l r:Int):Good (Ag σ d l r).2.2:=by
 refine⟨Md h.sound d l r,?_⟩;by_cases h1:d<0∨255<d
 · have:(Ag σ d l r).2.2=σ:=by unfold Ag;rw[if_pos h1]
   rw[this];exact h.fit
 by_cases h2:Bf σ l∨Bf σ r
 · have:(Ag σ d l r).2.2=σ:=by unfold Ag;rw[if_neg h1,if_pos h2]
   rw[this];exact h.fit
 by_cases h3:fitsB d l r (nd σ l) (nd σ r)=false
 · have:(Ag σ d l r).2.2=σ:=by unfold Ag;rw[if_neg h1,if_neg h2,if_pos h3]
   rw[this];exact h.fit
 by_cases hu:σ.used<σ.room
 · have ok:∀k,¬Bf σ k→Cs σ k:=fun k hk=>⟨by
    by_cases h0:k=0
    · exact .inl h0
    right;cases hx:σ.get? k with
    | none=>exact absurd ⟨h0,.inl (Dz hx)⟩ hk
    | some y =>
     have h5:=h.sound.held k y hx;have h6:y.1.held≠0:=fun e=>hk ⟨h0,.inr (by rw[Ap hx];exact e)⟩
     rw[Br hx];omega⟩
   obtain⟨n1,n2⟩:=not_or.1 h2;have hf:fitsB d l r (nd σ l) (nd σ r)=true:=by simpa using h3
   obtain⟨g0,g1,g2,g3,_⟩:=GL h.sound hu (by omega) (by omega) (ok l n1) (ok r n2) hf;exact h.fit.grow g1 g2 g3 (MO h (by omega) (by omega) (ok l n1) (ok r n2) hf)
 have:(Ag σ d l r).2.2=σ:=by unfold Ag;rw[if_neg h1,if_neg h2,if_neg h3,LU hu h.room,if_pos (by simp)]
 rw[this];exact h.fit
end Go.Proofs.YtngbdbpofifimaaGreat.Store
