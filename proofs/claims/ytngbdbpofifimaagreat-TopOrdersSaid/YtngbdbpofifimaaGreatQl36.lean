/- Laws of the layers below. -/
import Derived.Test.YtngbdbpofifimaaGreatQl35
set_option maxHeartbeats 3200000
set_option maxRecDepth 100000
set_option linter.unusedVariables false
namespace Go.Proofs.YtngbdbpofifimaaGreat.Store
open Go.RowKit Go.Proofs.YtngbdbpofifimaaGreat.ShaW Go.Proofs.YtngbdbpofifimaaGreat.Path
def fold (k:List UInt8) (d:Nat):Tr→Tr→Tr
 | .nil,.nil=>.nil
 | .nil,.leaf a b=>.leaf a b
 | .leaf a b,.nil=>.leaf a b
 | own,other=>mk k d own other
def Du (k:List UInt8):Nat→Tr→Tr
 | _,.nil=>.nil
 | _,.leaf k' v'=>if k'=k then .nil else .leaf k' v'
 | d,.node l r=>if AU k d=0 then fold k d (Du k (d+1) l) r else fold k d (Du k (d+1) r) l
theorem Fe (k:List UInt8) (d:Nat) {a:Tr} (b:Tr) (h:a.isNode=true):fold k d a b=mk k d a b:=by
 cases a with
 | nil=>cases h
 | leaf _ _=>cases h
 | node _ _=>rfl
theorem Fm (k:List UInt8) (d:Nat) (a:Tr) {b:Tr} (h:b.isNode=true):fold k d a b=mk k d a b:=by
 cases b with
 | nil=>cases h
 | leaf _ _=>cases h
 | node _ _=>cases a<;>rfl
variable {L : AS} {k v : List UInt8} {d m : Nat}
theorem Ji (L:AS) (k:List UInt8) (b d:Nat):sideE b d (Bm L k)=Bm (sideE b d L) k:=K3 L _ _
theorem Io (L:AS) (k:List UInt8) {d b:Nat} (hb:AU k d≠b):Bm (sideE b d L) k=sideE b d L:=by
 refine Gj fun hm=>?_
 obtain⟨p,hp,e⟩:=List.mem_map.1 hm;have h1:p.1=k:=e;have:=(List.mem_filter.1 hp).2;rw[h1] at this;simp at this;exact hb this
theorem AS.Ok.out (h:L.Ok k d):AS.Ok (Bm L k) k d:=h.filter _
theorem T2 (hm:m≤256) (h:L.Ok k (256-m)) (h2:2≤L.length):(tree m L).isNode=true:=by
 cases m with
 | zero=>have:=AS.Ok.few h;omega
 | succ m=>rw[Bu h2];rfl
theorem Oh (L:AS) (d:Nat):(sideE 0 d L).length+(sideE 1 d L).length=L.length:=by
 induction L with
 | nil=>rfl
 | cons p L ih =>
  unfold sideE at ih ⊢;rw[List.filter_cons,List.filter_cons];rcases Au p.1 d with h|h
  · simp only[h,beq_self_eq_true,if_true,show((0:Nat) == 1)=false from rfl,Bool.false_eq_true,if_false,List.length_cons];omega
  simp only[h,beq_self_eq_true,if_true,show((1:Nat) == 0)=false from rfl,Bool.false_eq_true,if_false,List.length_cons];omega
theorem AS.Ok.Xh (h:L.Ok k d) (b:Nat):∀p∈sideE b d L,(sideE b d L).Ok p.1 (d+1):=fun p hp=>by
 have hb:AU p.1 d=b:=by simpa using (List.mem_filter.1 hp).2
 have hf:=h.filter (fun p=>AU p.1 d == b);refine⟨hf.nodup,hf.len,fun q hq=>?_⟩;have hq1:AU q.1 d=b:=by simpa using (List.mem_filter.1 hq).2
 exact(((h.pre q (List.mem_filter.1 hq).1).trans (h.pre p (List.mem_filter.1 hp).1).symm)).next (by rw[hb,hq1])
theorem Fw (hm:m+1≤256) (h:L.Ok k (256-(m+1))) (b:Nat) (h2:2≤(sideE b (255-m) L).length):(tree m (sideE b (255-m) L)).isNode=true:=by
 rw[show 256-(m+1)=255-m by omega] at h;obtain⟨p,hp⟩:∃p,p∈sideE b (255-m) L:=⟨_,List.getElem_mem (show 0<_ by omega)⟩
 have:=h.Xh b p hp;rw[show 255-m+1=256-m by omega] at this;exact T2 (by omega) this h2
theorem UO (hm:m+1≤256) (h:L.Ok k (256-(m+1))):(if AU k (255-m)=0 then fold k (255-m) (tree m (sideE 0 (255-m) L)) (tree m (sideE 1 (255-m) L)) else fold k (255-m) (tree m (sideE 1 (255-m) L)) (tree m (sideE 0 (255-m) L)))=tree (m+1) L:=by
 have hl:=Oh L (255-m)
 have mkE:(if AU k (255-m)=0 then mk k (255-m) (tree m (sideE 0 (255-m) L)) (tree m (sideE 1 (255-m) L)) else mk k (255-m) (tree m (sideE 1 (255-m) L)) (tree m (sideE 0 (255-m) L)))=.node (tree m (sideE 0 (255-m) L)) (tree m (sideE 1 (255-m) L)):=by
  unfold mk;by_cases hb:AU k (255-m)=0
  · rw[if_pos hb,if_pos hb]
  rw[if_neg hb,if_neg hb]
 have hs:∀b,(sideE b (255-m) L) = []∨(∃p,sideE b (255-m) L = [p])∨2≤(sideE b (255-m) L).length:=fun b=>by
  match sideE b (255-m) L with
  | []=>exact .inl rfl
  | [p]=>exact .inr (.inl ⟨p,rfl⟩)
  | p::q::R=>exact .inr (.inr (by simp))
 have one:∀p,L.length=1→(p∈L)→tree (m+1) L=.leaf p.1 p.2:=fun p h1 hp=>by
  match L,h1 with
  | [q],_=>rw[List.mem_singleton.1 hp];exact BU _ _
 have memS:∀ {b p},sideE b (255-m) L = [p]→p∈L:=fun {b p} e=>(List.mem_filter.1 (show p∈sideE b (255-m) L by rw[e];simp)).1
 rcases hs 0 with e0|⟨p0,e0⟩|e0
 · rcases hs 1 with e1|⟨p1,e1⟩|e1
   · rw[e0,e1] at hl ⊢
     have:L = []:=List.eq_nil_of_length_eq_zero (by simpa using hl.symm);rw[this,CD,CD];split<;>rfl
   · have hp:=memS e1
     rw[e0,e1] at hl ⊢;rw[one p1 (by simpa using hl.symm) hp,CD,BU];split<;>rfl
   have hn:=Fw hm h 1 e1;rw[Fm _ _ _ hn,Fe _ _ _ hn,mkE,Bu (by omega)]
 · rcases hs 1 with e1|⟨p1,e1⟩|e1
   · have hp:=memS e0
     rw[e0,e1] at hl ⊢;rw[one p0 (by simpa using hl.symm) hp,CD,BU];split<;>rfl
   · have h2:2≤L.length:=by rw[e0,e1] at hl;simp at hl;omega
     rw[Bu h2, ←mkE,e0,e1,BU,BU];rfl
   have hn:=Fw hm h 1 e1;rw[Fm _ _ _ hn,Fe _ _ _ hn,mkE,Bu (by omega)]
 have hn:=Fw hm h 0 e0;rw[Fm _ _ _ hn,Fe _ _ _ hn,mkE,Bu (by omega)]
theorem WI:∀(m:Nat),m≤256→∀ {L:AS},L.Ok k (256-m)→k.length=32→Du k (256-m) (tree m L)=tree m (Bm L k):=by
 have small:∀(m d:Nat) {L:AS},L.length≤1→Du k d (tree m L)=tree m (Bm L k):=fun m d L hl=>by
  match L,hl with
  | [],_=>rw[show Bm [] k = [] from rfl,CD];rfl
  | [p],_ =>
   rw[BU];unfold Du Bm;by_cases e:p.1=k
   · simp[e,CD]
   simp[e,BU]
 intro m
 induction m with
 | zero=>intro _ L h _;exact small 0 _ h.few
 | succ m ih =>
  intro hm L h hk;by_cases h2:2≤L.length
  · rw[←UO hm h.out,Bu h2]
    rw[show 256-(m+1)=255-m by omega] at h ⊢;have hs:=ih (by omega) (L:=sideE (AU k (255-m)) (255-m) L) (by rw[show 256-m=255-m+1 by omega];exact h.side) hk;rw[show 256-m=255-m+1 by omega] at hs;unfold Du;rw[Ji,Ji];rcases Au k (255-m) with hb|hb
    · rw[if_pos hb,if_pos hb]
      rw[hb] at hs;rw[hs,Io L k (b:=1) (by omega)]
    rw[if_neg (by omega),if_neg (by omega)];rw[hb] at hs;rw[hs,Io L k (b:=0) (by omega)]
  exact small (m+1) _ (by omega)
section
variable {σ0 σ τ : AD Nd} {key : List UInt8} {now other : Int} {d n : Nat} {t u : Tr}
structure DMid (σ0 σ:AD Nd) (key:List UInt8) (now:Int) (d:Nat) (t:Tr) (n:Nat):Prop where
 good:Good σ
 old:∀k x,sk σ0 k=some x→sk σ k=some x∧held σ k=held σ0 k+(if k=now then 1 else 0)
 mine:now=0∨1≤held σ now
 one:sk σ0 now=none→now=0∨held σ now=1
 only:∀k,1≤held σ k→k=now∨1≤held σ0 k
 there:∀y,sk σ now=some y→Pre y.key key d
 rep:Rep (sk σ) now d t
 live:Store.live σ=Store.live σ0+n
 total:Store.total σ≤Store.total σ0+2*n+1
 room:σ.room=σ0.room
theorem J7 (σ:AD Nd):held σ 0=0:=rfl
theorem DMid.start (G:Good σ0) (htot:Store.total σ0<1073741824) {st:Int} (hr:Rep (sk σ0) st d t) (hp:∀y,sk σ0 st=some y→Pre y.key key d):DMid σ0 (Aq σ0 st) key st d t 0:=by
 have hs:st=0∨∃y,sk σ0 st=some y:=hr.live;obtain⟨s1,s2,s3,s4,s5⟩:=Gu G hs htot;have e0:sk (Aq σ0 st)=sk σ0:=funext s1;have hz:=G.fit.zero;refine⟨G.Aq st,fun k x hx=>⟨by rw[s1];exact hx,?_⟩,?_,fun h0=>?_,fun k hk=>?_,fun y hy=>?_,by rw[e0];exact hr,s3,by omega,s5⟩
 · rw[s2]
   have hk0:k≠0:=fun e=>by rw[e,hz] at hx;cases hx
   by_cases e:k=st
   · rw[if_pos ⟨hk0,e⟩,if_pos e]
   rw[if_neg (fun h=>e h.2),if_neg e];omega
 · by_cases e:st=0
   · exact .inl e
   right;rw[s2,if_pos ⟨e,rfl⟩];have:=Bn G.sound st;omega
 · rcases hs with e|⟨y,hy⟩
   · exact .inl e
   rw[h0] at hy;cases hy
 · rw[s2] at hk
   by_cases e:k≠0∧k=st
   · exact .inl e.2
   rw[if_neg e] at hk;exact .inr hk
 rw[e0] at hy;exact hp y hy
def Next (σ0:AD Nd) (key:List UInt8) (d:Nat) (other:Int) (u:Tr):Prop :=
 (other=0∧u=.nil)∨∃y,sk σ0 other=some y∧Rep (sk σ0) other (d+1) u∧Pre y.key key d∧AU y.key d≠AU key d
theorem DMid.join (h:DMid σ0 σ key now (d+1) t n) (hd:d≤255) (hroom:Store.live σ0+n<σ0.room) (htot:Store.total σ0+2*n+3<1073741824) (hk:key.length=32) (ho:Next σ0 key d other u) (hno:now≠other∨now=0)
 (hc:t.isNode=true∨u.isNode=true∨(now≠0∧other≠0)) :
 DMid σ0 (CU (Aq σ other) key (d:Nat) now other).2.2 key (CU (Aq σ other) key (d:Nat) now other).1 d (Store.mk key d t u) (n+1):=by
 have hz:=h.good.fit.zero
 have hother:other=0∨∃z,sk σ other=some z∧Rep (sk σ) other (d+1) u∧Pre z.key key d∧AU z.key d≠AU key d:=by
  rcases ho with⟨e,_⟩|⟨z,z1,z2,z3,z4⟩
  · exact .inl e
  exact .inr ⟨z,(h.old _ _ z1).1,z2.grow (fun k x hx=>(h.old k x hx).1),z3,z4⟩
 have hnull:now=0→t=.nil:=fun e=>by have:=h.rep;rw[e] at this;exact this.zero hz
 have hnull2:other=0→u=.nil:=fun e=>by
  rcases ho with⟨_,e2⟩|⟨z,z1,_⟩
  · exact e2
  have:=(h.old _ _ z1).1;rw[e,hz] at this;cases this
 obtain⟨s1,s2,s3,s4,s5⟩:=Gu h.good (other:=other) (hother.imp id fun ⟨z,z1,_⟩=>⟨z,z1⟩) (by have:=h.total;omega);have G:=h.good.Aq other;have e0:sk (Aq σ other)=sk σ:=funext s1;obtain⟨τ,hτ⟩:∃τ,τ=Aq σ other:=⟨_,rfl⟩
 rw[←hτ] at s1 s2 s3 s4 s5 G e0 ⊢;have hu:τ.used<τ.room:=by rw[G.used,s3,s5,h.room];have:=h.live;omega
 have hnow:∀k,k≠0→k=now→k≠other:=fun k k0 e e2=>by
  rcases hno with h1|h1
  · exact h1 (e.symm.trans e2)
  exact k0 (e.trans h1)
 have snow:CO τ now:=⟨h.mine.imp id fun h1=>by
  rw[s2];split<;>omega⟩
 have soth:CO τ other:=⟨by
  by_cases e:other=0
  · exact .inl e
  right;rw[s2,if_pos ⟨e,rfl⟩];have:=Bn h.good.sound other;omega⟩
 have rnow:Rep (sk τ) now (d+1) t:=by rw[e0];exact h.rep
 have roth:Rep (sk τ) other (d+1) u:=by
  rw[e0];rcases hother with e|⟨z,_,z2,_,_⟩
  · rw[e,hnull2 e];exact .nil
  exact z2
 have pnow1:∀y,sk τ now=some y→Pre y.key key (d+1):=fun x hx=>by rw[e0] at hx;exact h.there x hx
 have pnow:∀y,sk τ now=some y→Pre y.key key d:=fun x hx=>(pnow1 x hx).less (by omega)
 have poth:∀y,sk τ other=some y→Pre y.key key d∧AU y.key d≠AU key d:=fun x hx=>by
  rw[e0] at hx;rcases hother with e|⟨z,z1,z2,z3,z4⟩
  · rw[e,hz] at hx;cases hx
  rw[z1] at hx;cases hx;exact⟨z3,z4⟩
 have hzt:sk τ 0=none:=by rw[e0];exact hz
 have nfit:now≠0→∃y,sk τ now=some y∧ndF (sk τ) now=y∧B7 y (d:Nat) (AU key d:Nat)=true:=fun e=>by
  obtain⟨y,y1⟩:=snow.side.resolve_left e;refine⟨y,y1,BW y1,IU (fun hk=>by have:=rnow.Dr y1 hzt hk;omega) ?_⟩;rw[DQ (by omega),pnow1 y y1 d (by omega)]
 have ofit:other≠0→∃z,sk τ other=some z∧ndF (sk τ) other=z∧B7 z (d:Nat) (1-AU key d:Nat)=true:=fun e=>by
  obtain⟨z,z1⟩:=soth.side.resolve_left e;obtain⟨z3,z4⟩:=poth z z1;refine⟨z,z1,BW z1,IU (fun hk=>by have:=roth.Dr z1 hzt hk;omega) ?_⟩;rw[DQ (by omega)];rcases Au z.key d with h1|h1<;>rcases Au key d with h2|h2<;>rw[h1,h2] at z4 ⊢
  · exact absurd rfl z4
  exact absurd rfl z4
 have cfit:∀y z,sk τ now=some y→sk τ other=some z→(d:Int)≤(common y.key z.key:Nat)∧(d:Int)≤(common z.key y.key:Nat):=fun y z hy hz1=>by
  have zl:z.key.length=32:=(G.fit.all _ _ hz1).key;have yl:y.key.length=32:=(G.fit.all _ _ hy).key;have h1:=DY yl zl (d:=d) (by omega) ((pnow y hy).trans (poth z hz1).1.symm);have h2:=DY zl yl (d:=d) (by omega) ((poth z hz1).1.trans (pnow y hy).symm);omega
 have lone1:other=0→now≠0∧∀y,sk τ now=some y→y.kind=2:=fun e=>by
  have ht:t.isNode=true:=by
   rcases hc with h1|h1|h1
   · exact h1
   · rw[hnull2 e] at h1;cases h1
   exact absurd e h1.2
  refine⟨fun e2=>(by rw[hnull e2] at ht;cases ht),fun y hy=>rnow.isNode hy hzt ht⟩
 have lone2:now=0→other≠0∧∀y,sk τ other=some y→y.kind=2:=fun e=>by
  have ht:u.isNode=true:=by
   rcases hc with h1|h1|h1
   · rw[hnull e] at h1;cases h1
   · exact h1
   exact absurd e h1.1
  refine⟨fun e2=>(by rw[hnull2 e2] at ht;cases ht),fun y hy=>roth.isNode hy hzt ht⟩
 have key1:∀l r:Int,CO τ l→CO τ r→Bi (d:Nat) l r (nd τ l) (nd τ r)=true→(l=now∧r=other∨l=other∧r=now)→∀T:Tr,Rep (sk (Aa τ (d:Nat) l r).2.2) (Aa τ (d:Nat) l r).1 d T →
  (∃y,sk (Aa τ (d:Nat) l r).2.2 (Aa τ (d:Nat) l r).1=some y∧Pre y.key key d)→DMid σ0 (Aa τ (d:Nat) l r).2.2 key (Aa τ (d:Nat) l r).1 d T (n+1):=fun l r sl sr hf hlr T hT hP=>by
  obtain⟨_,q1,q2,q3,q4,q5,q6,q7⟩:=Ei G.sound hu (d:=(d:Nat)) (by omega) (by omega) sl sr hf
  have hold:∀k x,sk σ0 k=some x→k≠(Aa τ (d:Nat) l r).1:=fun k x hx e=>by
   have:=(h.old k x hx).1;rw[←s1,e,q2] at this;cases this
  have hin:∀k,(k=l∨k=r)↔(k=now∨k=other):=fun k=>by
   rcases hlr with⟨e1,e2⟩|⟨e1,e2⟩
   · rw[e1,e2]
   rw[e1,e2,or_comm]
  have q4':∀k,k≠(Aa τ (d:Nat) l r).1→held (Aa τ (d:Nat) l r).2.2 k=if k≠0∧k=now then held σ k-1 else held σ k:=fun k hkn=>by
   rw[q4,if_neg hkn,s2];by_cases hk0:k=0
   · rw[if_neg (fun h=>h.1 hk0),if_neg (fun h=>h.1 hk0),if_neg (fun h=>h.1 hk0)]
   by_cases e1:k=now
   · rw[if_pos ⟨hk0,(hin k).2 (.inl e1)⟩,if_neg (fun h=>hnow k hk0 e1 h.2),if_pos ⟨hk0,e1⟩]
   by_cases e2:k=other
   · rw[if_pos ⟨hk0,(hin k).2 (.inr e2)⟩,if_pos ⟨hk0,e2⟩,if_neg (fun h=>e1 h.2)];omega
   rw[if_neg (fun h=>((hin k).1 h.2).elim e1 e2),if_neg (fun h=>e2 h.2),if_neg (fun h=>e1 h.2)]
  refine⟨G.inner _ _ _,fun k x hx=>?_,.inr (by rw[q4,if_pos rfl];omega),fun _=>.inr (by rw[q4,if_pos rfl]),fun k hk=>?_,fun y hy=>?_,hT,by have:=h.live;omega,by have:=h.total;omega,by rw[q7,s5,h.room]⟩
  · have hk1:=hold k x hx
    obtain⟨p1,p2⟩:=h.old k x hx;have hk0:k≠0:=fun e=>by rw[e,hz] at p1;cases p1
    rw[q3,if_neg hk1,s1,q4' k hk1,if_neg hk1];refine⟨p1,?_⟩;by_cases e1:k=now
    · rw[if_pos ⟨hk0,e1⟩,p2,if_pos e1];omega
    rw[if_neg (fun h=>e1 h.2),p2,if_neg e1]
  · by_cases e:k=(Aa τ (d:Nat) l r).1
    · exact .inl e
    right;rw[q4' k e] at hk;have hk0:k≠0:=fun e0=>by rw[if_neg (fun h=>h.1 e0),e0,J7] at hk;omega
    by_cases e1:k=now
    · rw[if_pos ⟨hk0,e1⟩] at hk
      cases hx:sk σ0 k with
      | none =>
       rw[e1] at hx;rcases h.one hx with h1|h1
       · exact absurd (e1.trans h1) hk0
       rw[e1] at hk;omega
      | some x =>
       have:=(h.old k x hx).2;rw[if_pos e1] at this;omega
    rw[if_neg (fun h=>e1 h.2)] at hk;exact(h.only k hk).resolve_left e1
  obtain⟨y',hy',hp⟩:=hP;rw[hy'] at hy;cases hy;exact hp
 have hb:bit key (d:Nat)=(AU key d:Nat):=DQ (by omega)
 have fitsL:Bi (d:Nat) now other (ndF (sk τ) now) (ndF (sk τ) other)=true∨AU key d≠0:=by
  by_cases hb0:AU key d=0
  · left
    rw[hb0] at nfit ofit;unfold Bi;by_cases e1:now=0
    · obtain⟨e2,e3⟩:=lone2 e1
      obtain⟨z,z1,z2,z3⟩:=ofit e2;rw[if_pos e1,if_neg e2,z2,e3 z z1,show B7 z (d:Nat) 1=true from z3];rfl
    obtain⟨y,y1,y2,y3⟩:=nfit e1;rw[if_neg e1];by_cases e2:other=0
    · rw[if_pos e2,y2,(lone1 e2).2 y y1,show B7 y (d:Nat) 0=true from y3]
      rfl
    obtain⟨z,z1,z2,z3⟩:=ofit e2;rw[if_neg e2,y2,z2,show B7 y (d:Nat) 0=true from y3,show B7 z (d:Nat) 1=true from z3,decide_eq_true (cfit y z y1 z1).1];rfl
  exact .inr hb0
 have fitsR:Bi (d:Nat) other now (ndF (sk τ) other) (ndF (sk τ) now)=true∨AU key d≠1:=by
  by_cases hb1:AU key d=1
  · left
    rw[hb1] at nfit ofit;unfold Bi;by_cases e2:other=0
    · obtain⟨e1,e3⟩:=lone1 e2
      obtain⟨y,y1,y2,y3⟩:=nfit e1;rw[if_pos e2,if_neg e1,y2,e3 y y1,show B7 y (d:Nat) 1=true from y3];rfl
    obtain⟨z,z1,z2,z3⟩:=ofit e2;rw[if_neg e2];by_cases e1:now=0
    · rw[if_pos e1,z2,(lone2 e1).2 z z1,show B7 z (d:Nat) 0=true from z3]
      rfl
    obtain⟨y,y1,y2,y3⟩:=nfit e1;rw[if_neg e1,y2,z2,show B7 y (d:Nat) 1=true from y3,show B7 z (d:Nat) 0=true from z3,decide_eq_true (cfit y z y1 z1).2];rfl
  exact .inr hb1
 unfold CU Store.mk;rcases Au key d with hb0|hb1
 · rw[hb,hb0]
   simp only[show((0:Nat):Int)≠1 by decide,if_false,if_true];have hf:Bi (d:Nat) now other (nd τ now) (nd τ other)=true:=by rw[GS];exact fitsL.resolve_right (fun h=>h hb0)
   obtain⟨hT,hP⟩:=GP G hu hd snow soth hf rnow roth pnow (fun y hy=>(poth y hy).1);exact key1 now other snow soth hf (.inl ⟨rfl,rfl⟩) _ hT hP
 rw[hb,hb1];simp only[show((1:Nat):Int)=1 from rfl,show ¬((1:Nat)=0) by decide,if_false,if_true];have hf:Bi (d:Nat) other now (nd τ other) (nd τ now)=true:=by rw[GS];exact fitsR.resolve_right (fun h=>h hb1)
 obtain⟨hT,hP⟩:=GP G hu hd soth snow hf roth rnow (fun y hy=>(poth y hy).1) pnow;exact key1 other now soth snow hf (.inr ⟨rfl,rfl⟩) _ hT hP
end
section
variable {σ0 σ τ : AD Nd} {key : List UInt8} {now other : Int} {d n : Nat} {t u : Tr}
inductive Way (f:View) (k:List UInt8):Int→Nat→List Int→Int→Prop
 | nil {h:Int} {d:Nat}:Way f k h d [] h
 | step {h:Int} {d:Nat} {n:Nd} {l:List Int} {c:Int} (hn:f h=some n) (hk:n.kind=2) (hd:n.depth=(d:Nat)) (hr:Way f k (if AU k d=0 then n.left else n.right) (d+1) l c):Way f k h d (h::l) c
theorem Fit.next {f:View} (hf:Fit f) (hfs:f=sk σ0) {h:Int} {x:Nd} (hn:f h=some x) (h2:x.kind=2) (hd:x.depth=(d:Nat)) (hp:Pre x.key key d) {tl tr:Tr} (hl:Rep f x.left (d+1) tl) (hr:Rep f x.right (d+1) tr) :
 Next σ0 key d (if AU key d=0 then x.right else x.left) (if AU key d=0 then tr else tl):=by
 subst hfs;have hz:=hf.zero;obtain⟨_,w2⟩:=hf.way hn h2 hd hp;have hroth:Rep (sk σ0) (if AU key d=0 then x.right else x.left) (d+1) (if AU key d=0 then tr else tl):=by split<;>assumption
 by_cases h0:(if AU key d=0 then x.right else x.left)=0
 · exact .inl ⟨h0,by rw[h0] at hroth;exact hroth.zero hz⟩
 obtain⟨y,hy⟩:=hroth.live.resolve_left h0;obtain⟨p1,p2⟩:=w2 y hy;exact .inr ⟨y,hy,hroth,p1,p2⟩
theorem DMid.apart (h:DMid σ0 σ key now (d+1) t n) (ho:Next σ0 key d other u):now≠other∨now=0:=by
 by_cases h0:now=0
 · exact .inr h0
 left;intro e;rcases ho with⟨e2,_⟩|⟨z,z1,_,_,z4⟩
 · exact h0 (e.trans e2)
 have:=(h.old _ _ z1).1;rw[←e] at this;exact z4 (h.there z this d (Nat.lt_succ_self _))
theorem Qs (h:DMid σ0 σ key now (d+1) t n) (hd:d≤255) {hh:Int} {x:Nd} (hn:sk σ0 hh=some x):Bg σ key hh d=(if AU key d=0 then x.right else x.left):=by
 have hsk:=(h.old hh x hn).1;unfold Bg;rw[JW hsk,IF hsk,DQ (show d<256 by omega)];rcases Au key d with hb|hb
 · rw[hb];rfl
 rw[hb];rfl
theorem DMid.next (G:Good σ0) (hk:key.length=32) {h:Int} {x:Nd} (hn:sk σ0 h=some x) (h2:x.kind=2) (hd:x.depth=(d:Nat)) (hp:Pre x.key key d) {tl tr:Tr} (hl:Rep (sk σ0) x.left (d+1) tl) (hr:Rep (sk σ0) x.right (d+1) tr)
 (hm:DMid σ0 σ key now (d+1) t n) (hroom:Store.live σ0+n<σ0.room) (htot:Store.total σ0+2*n+3<1073741824)
 (hc:t.isNode=true∨(if AU key d=0 then tr else tl).isNode=true∨(now≠0∧(if AU key d=0 then x.right else x.left)≠0)) :
 DMid σ0 (Hp σ key h d now).2 key (Hp σ key h d now).1 d (Store.mk key d t (if AU key d=0 then tr else tl)) (n+1):=by
 have hd1:=(G.fit.inner hn h2).d1;have hN:=G.fit.next (σ0:=σ0) rfl hn h2 hd hp hl hr
 have hb:=Qs hm (by omega) hn;have hj:=hm.join (by omega) hroom htot hk hN (hm.apart hN) hc;rw[←hb] at hj;exact hj
theorem DMid.up (G:Good σ0) (hk:key.length=32) {h c:Int} {l:List Int} (hw:Way (sk σ0) key h d l c):∀ {t tc:Tr} {σ:AD Nd} {now:Int} {n:Nat},Rep (sk σ0) h d t→Rep (sk σ0) c (d+l.length) tc →
 (∀x,sk σ0 h=some x→Pre x.key key d)→DMid σ0 σ key now (d+l.length) (Du key (d+l.length) tc) n→(Du key (d+l.length) tc).isNode=true→Store.live σ0+n+l.length≤σ0.room→Store.total σ0+2*n+2*l.length+3<1073741824 →
 DMid σ0 (upL key d l σ now).2 key (upL key d l σ now).1 d (Du key d t) (n+l.length)∧(Du key d t).isNode=true:=by
 have hz:=G.fit.zero
 induction hw with
 | nil =>
  intro t tc σ now n ht hc _ hm hnd _ _;rw[ht.det hz hc];exact⟨hm,hnd⟩
 | @step h d x l c hn h2 hd hr ih =>
  intro t tc σ now n ht hc hp hm hnd hroom htot;have hp':=hp x hn;obtain⟨w1,_⟩:=G.fit.way hn h2 hd hp';have hlen:∀a:Nat,a+(h::l).length=a+1+l.length:=fun a=>by simp only[List.length_cons];omega
  cases ht with
  | nil=>rw[hz] at hn;cases hn
  | leaf hn' hk'=>rw[hn] at hn';cases hn';omega
  | @node _ _ x' tl tr hn' _ _ hl hr' =>
   rw[hn] at hn';cases hn';rw[hlen] at hc hm hnd;have hrown:Rep (sk σ0) (if AU key d=0 then x.left else x.right) (d+1) (if AU key d=0 then tl else tr):=by split<;>assumption
   obtain⟨hm1,hn1⟩:=ih hrown hc w1 hm hnd (by rw[List.length_cons] at hroom;omega) (by rw[List.length_cons] at htot;omega);have hj:=DMid.next G hk hn h2 hd hp' hl hr' hm1 (by rw[List.length_cons] at hroom;omega) (by rw[List.length_cons] at htot;omega) (.inl hn1)
   have e1:Store.mk key d (Du key (d+1) (if AU key d=0 then tl else tr)) (if AU key d=0 then tr else tl)=Du key d (.node tl tr):=by
    rw[←Fe key d _ hn1]
    conv=>rhs;unfold Du
    by_cases hb:AU key d=0
    · rw[if_pos hb,if_pos hb,if_pos hb]
    rw[if_neg hb,if_neg hb,if_neg hb]
   rw[e1] at hj;refine⟨?_,by rw[←e1];exact Jr ..⟩;rw[hlen];rw[show n+1+l.length=n+l.length+1 by omega];exact hj
theorem On.cut {f:View} {k:List UInt8} {h e:Int} {l:List Int} (ho:On f k h d l e):∀(j:Nat),j≤l.length→∀ {t:Tr},(f 0=none)→Rep f h d t→∃c tc,Way f k h d (l.take j) c∧On f k c (d+j) (l.drop j) e∧Rep f c (d+j) tc:=by
 induction ho with
 | stop h0 =>
  intro j hj t hz ht;have:j=0:=by simpa using hj
  subst this;exact⟨_,_,.nil,.stop h0,ht⟩
 | @step h d x l e hn hk hd hr ih =>
  intro j hj t hz ht;cases j with
  | zero=>exact⟨_,_,.nil,.step hn hk hd hr,ht⟩
  | succ j =>
   cases ht with
   | nil=>rw[hz] at hn;cases hn
   | leaf hn' hk'=>rw[hn] at hn';cases hn';omega
   | @node _ _ x' tl tr hn' _ _ hl hr' =>
    rw[hn] at hn';cases hn';have hrown:Rep f (if AU k d=0 then x.left else x.right) (d+1) (if AU k d=0 then tl else tr):=by split<;>assumption
    obtain⟨c,tc,h1,h2,h3⟩:=ih j (by simpa using hj) hz hrown;refine⟨c,tc,.step hn hk hd h1,?_,?_⟩
    · rw[show d+(j+1)=d+1+j by omega];exact h2
    rw[show d+(j+1)=d+1+j by omega];exact h3
theorem Way.pre {f:View} (hf:Fit f) {k:List UInt8} {h c:Int} {l:List Int} (hw:Way f k h d l c) (hp:∀n,f h=some n→Pre n.key k d):∀n,f c=some n→Pre n.key k (d+l.length):=by
 induction hw with
 | nil=>simpa using hp
 | step hn hk hd _ ih =>
  intro n hc;have:=ih (fun y hy=>(hf.way hn hk hd (hp _ hn)).1 y hy) n hc;rw[List.length_cons,show ∀a b:Nat,a+(b+1)=a+1+b by omega];exact this
end
section
variable {σ0 σ : AD Nd} {key : List UInt8} {root : Int} {l : List Int} {e : Int} {t : Tr}
def Um (f:View) (key:List UInt8) (m:Nat) (st:Int) (T:Tr):Prop:=(st=0∧T=.nil)∨∃y,f st=some y∧y.kind=1∧T=.leaf y.key y.value∧Pre y.key key m
theorem Um.rep {f:View} {m:Nat} {st:Int} {T:Tr} (h:Um f key m st T) (d:Nat):Rep f st d T:=by
 rcases h with⟨rfl,rfl⟩|⟨y,h1,h2,rfl,_⟩
 · exact .nil
 exact .leaf h1 h2
theorem On.same {f:View} {k:List UInt8} {d:Nat} {c c':Int} (h:On f k c d l e) (h':On f k c' d l e):c=c':=by
 cases h with
 | stop _=>cases h' with|stop _=>rfl
 | step _ _ _ _=>cases h' with|step _ _ _ _=>rfl
theorem Rep.NM {f:View} {h:Int} {d:Nat} {t:Tr} (hr:Rep f h d t) (ht:t=.nil):h=0:=by
 cases hr with
 | nil=>rfl
 | leaf _ _=>cases ht
 | node _ _ _ _ _=>cases ht
structure Level (σ0:AD Nd) (key:List UInt8) (root:Int) (l:List Int) (e:Int) (j:Nat) (h:Int) (x:Nd) (tl tr:Tr):Prop where
 at_:l[j]?=some h
 way:Way (sk σ0) key root 0 (l.take j) h
 there:sk σ0 h=some x
 kind:x.kind=2
 depth:x.depth=(j:Nat)
 pre:Pre x.key key j
 left:Rep (sk σ0) x.left (j+1) tl
 right:Rep (sk σ0) x.right (j+1) tr
 own:On (sk σ0) key (if AU key j=0 then x.left else x.right) (j+1) (l.drop (j+1)) e
theorem level (G:Good σ0) (ht:Rep (sk σ0) root 0 t) (ho:On (sk σ0) key root 0 l e) {j:Nat} (hj:j<l.length):∃h x tl tr,Level σ0 key root l e j h x tl tr:=by
 have hz:=G.fit.zero;obtain⟨c,tc,h1,h2,h3⟩:=ho.cut j (by omega) hz ht;rw[Nat.zero_add] at h2 h3;have hp:=h1.pre G.fit (fun _ _ _ h=>absurd h (Nat.not_lt_zero _));rw[Nat.zero_add,List.length_take,Nat.min_eq_left (by omega)] at hp;rw[List.drop_eq_getElem_cons hj] at h2;generalize hl:l[j]=hh at h2;cases h2 with
 | step hn hk hd hr =>
  cases h3 with
  | nil=>rw[hz] at hn;cases hn
  | leaf hn' hk'=>rw[hn] at hn';cases hn';omega
  | @node _ _ x tl tr hn' _ _ hl' hr' =>
   rw[hn] at hn';cases hn';exact⟨_,_,tl,tr,by rw[List.getElem?_eq_getElem hj,hl],h1,hn,hk,hd,hp _ hn,hl',hr',hr⟩
theorem OA {j:Nat} {h:Int} {x:Nd} {tl tr:Tr} (G:Good σ0) (L:Level σ0 key root l e j h x tl tr):Bg σ0 key (l.getD j 0) j=(if AU key j=0 then x.right else x.left):=by
 have hd:=(G.fit.inner L.there L.kind).d1;have hdd:=L.depth;have hg:l.getD j 0=h:=by simp[L.at_]
 rw[hg];unfold Bg;rw[JW L.there,IF L.there,DQ (show j<256 by omega)];rcases Au key j with hb|hb
 · rw[hb];rfl
 rw[hb];rfl
theorem Ro (G:Good σ0) (ht:Rep (sk σ0) root 0 t) (ho:On (sk σ0) key root 0 l e):∀(m:Nat),m≤l.length→∀ {c:Int} {tm:Tr} {st:Int},On (sk σ0) key c m (l.drop m) e→Rep (sk σ0) c m tm→Um (sk σ0) key m st (Du key m tm) →
 ((BO σ0 key l m st).2.1 = -1∧(BO σ0 key l m st).2.2=false∧Um (sk σ0) key 0 (BO σ0 key l m st).1 (Du key 0 t)) ∨
 (∃(j:Nat) (h:Int) (x:Nd) (tl tr:Tr),(BO σ0 key l m st).2.1=j∧Level σ0 key root l e j h x tl tr∧(BO σ0 key l m st).2.2=false∧(BO σ0 key l m st).1≠0∧Um (sk σ0) key (j+1) (BO σ0 key l m st).1 (Du key (j+1) (if AU key j=0 then tl else tr))∧(if AU key j=0 then x.right else x.left)≠0) ∨
 (∃(j:Nat) (h:Int) (x:Nd) (tl tr:Tr),(BO σ0 key l m st).2.1=j∧Level σ0 key root l e j h x tl tr∧(BO σ0 key l m st).2.2=true∧Du key (j+1) (if AU key j=0 then tl else tr)=.nil∧(BO σ0 key l m st).1=(if AU key j=0 then x.right else x.left)∧(if AU key j=0 then tr else tl).isNode=true):=by
 have hz:=G.fit.zero;intro m
 induction m with
 | zero =>
  intro _ c tm st hon hrep hS;have hc:c=root:=by rw[List.drop_zero] at hon;exact hon.same ho
  subst hc;rw[←ht.det hz hrep] at hS;exact .inl ⟨rfl,rfl,hS⟩
 | succ m ih =>
  intro hm c tm st hon hrep hS;obtain⟨h,x,tl,tr,L⟩:=level G ht ho (show m<l.length by omega);have hc:=hon.same L.own;subst hc
  have hrown:Rep (sk σ0) (if AU key m=0 then x.left else x.right) (m+1) (if AU key m=0 then tl else tr):=by
   have h1:=L.left;have h2:=L.right;split<;>assumption
  have htm:=hrep.det hz hrown;rw[htm] at hS;have hN:=G.fit.next (σ0:=σ0) rfl L.there L.kind L.depth L.pre L.left L.right
  have hb:=OA G L
  have hdel:Du key m (.node tl tr)=fold key m (Du key (m+1) (if AU key m=0 then tl else tr)) (if AU key m=0 then tr else tl):=by
   conv=>lhs;unfold Du
   by_cases hk:AU key m=0
   · rw[if_pos hk,if_pos hk,if_pos hk]
   rw[if_neg hk,if_neg hk,if_neg hk]
  have hrepm:Rep (sk σ0) h m (.node tl tr):=.node L.there L.kind L.depth L.left L.right
  have honm:On (sk σ0) key h m (l.drop m) e:=by
   obtain⟨hlt,hh⟩:=List.getElem?_eq_some_iff.1 L.at_;rw[List.drop_eq_getElem_cons hlt,hh];exact .step L.there L.kind L.depth L.own
  unfold BO;rw[hb];obtain⟨o,ho'⟩:∃o,o=(if AU key m=0 then x.right else x.left):=⟨_,rfl⟩
  obtain⟨u,hu⟩:∃u,u=(if AU key m=0 then tr else tl):=⟨_,rfl⟩
  obtain⟨T,hT⟩:∃T,T=Du key (m+1) (if AU key m=0 then tl else tr):=⟨_,rfl⟩
  rw[←ho', ←hu] at hN;rw[←hT] at hS hdel;rw[←hu] at hdel;rw[←ho'];by_cases h0:o=0
  · rw[if_pos h0]
    have hu0:u=.nil:=by
     rcases hN with⟨_,e2⟩|⟨z,z1,_⟩
     · exact e2
     rw[h0,hz] at z1;cases z1
    refine ih (by omega) honm hrepm ?_;rw[hdel,hu0];rcases hS with⟨e1,e2⟩|⟨y,y1,y2,y3,y4⟩
    · rw[e2];exact .inl ⟨e1,rfl⟩
    rw[y3];exact .inr ⟨y,y1,y2,rfl,y4.less (by omega)⟩
  rw[if_neg h0];obtain⟨z,z1,z2,z3,z4⟩:=hN.resolve_left (fun h=>h0 h.1);by_cases hst:st=0
  · rw[if_neg (by simpa using hst)]
    have hTn:T=.nil:=by
     rcases hS with⟨_,e2⟩|⟨y,y1,_⟩
     · exact e2
     rw[hst,hz] at y1;cases y1
    by_cases hk1:(nd σ0 o).kind=1
    · rw[if_pos hk1]
      have hz1:z.kind=1:=by rw[←Ci z1];exact hk1
      refine ih (by omega) honm hrepm ?_;rw[hdel,hTn];have hul:u=.leaf z.key z.value:=z2.det hz (.leaf z1 hz1);rw[hul];exact .inr ⟨z,z1,hz1,rfl,z3⟩
    rw[if_neg hk1];refine .inr (.inr ⟨m,h,x,tl,tr,rfl,L,rfl,by rw[←hT];exact hTn,ho',?_⟩);rw[←hu]
    have hz2:z.kind=2:=by
     by_cases h2:z.kind=2
     · exact h2
     have:=(G.fit.leaf z1 h2).1;exact absurd (by rw[Ci z1];exact this) hk1
    exact z2.Oj hz z1 hz2
  rw[if_pos hst];exact .inr (.inl ⟨m,h,x,tl,tr,rfl,L,rfl,hst,by rw[←hT];exact hS,by rw[←ho'];exact h0⟩)
theorem VO (G:Good σ0) (hk:key.length=32) (ht:Rep (sk σ0) root 0 t) (ho:On (sk σ0) key root 0 l e) (hth:Az σ0 key e=true) (hroom:live σ0+258≤σ0.room) (htot:total σ0+1000<1073741824) :
 ∃n,n≤256∧DMid σ0 (Jk σ0 key l).2 key (Jk σ0 key l).1 0 (Du key 0 t) n:=by
 have hz:=G.fit.zero;have hll:=ho.len G.fit (by omega);obtain⟨te,hte⟩:=ho.Rq hz ht;rw[Nat.zero_add] at hte
 have hend:Du key l.length te=.nil:=by
  unfold Az at hth;simp at hth;cases hte with
  | nil=>rfl
  | leaf hn h1 =>
   rw[C6 hn] at hth;unfold Du;rw[if_pos hth.2]
  | node hn h2 _ _ _=>rw[Ci hn,h2] at hth;exact absurd hth.1 (by decide)
 have hone:On (sk σ0) key e l.length (l.drop l.length) e:=by
  rw[List.drop_length];exact .stop ho.end_
 have hpre:∀x,sk σ0 root=some x→Pre x.key key 0:=fun _ _ _ h=>absurd h (Nat.not_lt_zero _)
 rcases Ro G ht ho l.length (Nat.le_refl _) hone hte (.inl ⟨rfl,hend⟩) with⟨h1,h2,h3⟩|⟨j,h,x,tl,tr,h1,L,h2,h3,h4,h5⟩|⟨j,h,x,tl,tr,h1,L,h2,h3,h4,h5⟩
 · have hc:Jk σ0 key l=((BO σ0 key l l.length 0).1,Aq σ0 (BO σ0 key l l.length 0).1):=by
    unfold Jk;simp only;rw[h2,h1,if_neg (by simp)];rfl
   rw[hc];exact⟨0,by omega,DMid.start G (by omega) (h3.rep 0) (fun _ _ _ h=>absurd h (Nat.not_lt_zero _))⟩
 · have hjl:j<l.length:=(List.getElem?_eq_some_iff.1 L.at_).1
   have hc:Jk σ0 key l=upL key 0 (l.take j) (Hp (Aq σ0 (BO σ0 key l l.length 0).1) key h j (BO σ0 key l l.length 0).1).2 (Hp (Aq σ0 (BO σ0 key l l.length 0).1) key h j (BO σ0 key l l.length 0).1).1:=by
    unfold Jk;simp only;rw[h2,h1,if_neg (by simp),show((j:Int)+1).toNat=j+1 by omega,show l.take (j+1)=l.take j ++ [h] by rw[List.take_add_one,L.at_];rfl,Me,List.length_take,Nat.min_eq_left (by omega),Nat.zero_add]
   rw[hc]
   have hst:∀y,sk σ0 (BO σ0 key l l.length 0).1=some y→Pre y.key key (j+1):=fun y hy=>by
    rcases h4 with⟨e1,_⟩|⟨y',y1,_,_,y4⟩
    · exact absurd e1 h3
    rw[y1] at hy;cases hy;exact y4
   have m0:=DMid.start (key:=key) G (by omega) (h4.rep (j+1)) hst;have m1:=DMid.next G hk L.there L.kind L.depth L.pre L.left L.right m0 (by omega) (by omega) (.inr (.inr ⟨h3,h5⟩))
   have hfold:Store.mk key j (Du key (j+1) (if AU key j=0 then tl else tr)) (if AU key j=0 then tr else tl)=Du key j (.node tl tr):=by
    have hdel:Du key j (.node tl tr)=fold key j (Du key (j+1) (if AU key j=0 then tl else tr)) (if AU key j=0 then tr else tl):=by
     conv=>lhs;unfold Du
     by_cases hk:AU key j=0
     · rw[if_pos hk,if_pos hk,if_pos hk]
     rw[if_neg hk,if_neg hk,if_neg hk]
    rw[hdel];have hN:=G.fit.next (σ0:=σ0) rfl L.there L.kind L.depth L.pre L.left L.right
    obtain⟨z,z1,z2,_⟩:=hN.resolve_left (fun h=>h5 h.1);rcases h4 with⟨e1,_⟩|⟨y,y1,y2,y3,y4⟩
    · exact absurd e1 h3
    rw[y3];generalize (if AU key j=0 then tr else tl)=u at z2 ⊢;cases u with
    | nil=>exact absurd (z2.NM rfl) h5
    | leaf _ _=>rfl
    | node _ _=>rfl
   rw[hfold] at m1;have hrepj:Rep (sk σ0) h j (.node tl tr):=.node L.there L.kind L.depth L.left L.right;have hlen:(l.take j).length=j:=by rw[List.length_take,Nat.min_eq_left (by omega)]
   have hup:=DMid.up G hk L.way ht (tc:=.node tl tr) (by rw[hlen,Nat.zero_add];exact hrepj) hpre (by rw[hlen,Nat.zero_add];exact m1) (by rw[hlen,Nat.zero_add, ←hfold];exact Jr ..) (by rw[hlen];omega) (by rw[hlen];omega);exact⟨_,by rw[hlen];omega,hup.1⟩
 have hjl:j<l.length:=(List.getElem?_eq_some_iff.1 L.at_).1;have hN:=G.fit.next (σ0:=σ0) rfl L.there L.kind L.depth L.pre L.left L.right
 have hc:Jk σ0 key l=upL key 0 (l.take j) (CU (Aq σ0 (BO σ0 key l l.length 0).1) key (j:Nat) 0 (BO σ0 key l l.length 0).1).2.2 (CU (Aq σ0 (BO σ0 key l l.length 0).1) key (j:Nat) 0 (BO σ0 key l l.length 0).1).1:=by
  unfold Jk;simp only;rw[h2,h1,if_pos rfl,show((j:Int)).toNat=j by omega]
 rw[hc];have hd1:=(G.fit.inner L.there L.kind).d1;have hdd:=L.depth
 have m0:DMid σ0 σ0 key 0 (j+1) .nil 0:=by
  have:=DMid.start (key:=key) (d:=j+1) (st:=0) G (by omega) .nil (fun y hy=>by rw[hz] at hy;cases hy);rw[MB] at this;exact this
 rw[←h4] at hN;have m1:=m0.join (by omega) (by omega) (by omega) hk hN (.inr rfl) (.inr (.inl h5))
 have hfold:Store.mk key j .nil (if AU key j=0 then tr else tl)=Du key j (.node tl tr):=by
  rw[←Fm key j .nil h5, ←h3]
  conv=>rhs;unfold Du
  by_cases hk:AU key j=0
  · rw[if_pos hk,if_pos hk,if_pos hk]
  rw[if_neg hk,if_neg hk,if_neg hk]
 rw[hfold] at m1;have hrepj:Rep (sk σ0) h j (.node tl tr):=.node L.there L.kind L.depth L.left L.right;have hlen:(l.take j).length=j:=by rw[List.length_take,Nat.min_eq_left (by omega)]
 have hup:=DMid.up G hk L.way ht (tc:=.node tl tr) (by rw[hlen,Nat.zero_add];exact hrepj) hpre (by rw[hlen,Nat.zero_add];exact m1) (by rw[hlen,Nat.zero_add, ←hfold];exact Jr ..) (by rw[hlen];omega) (by rw[hlen];omega);exact⟨_,by rw[hlen];omega,hup.1⟩
end
section
variable {w0 w : World} {s : Nat} {σ σ' σ1 : AD Nd} {F G : Nat→Prop} {root r now : Int} {t : Tr} {L : AS} {key : List UInt8} {n : Nat}
theorem On.U5 {f:View} (hz:f 0=none) {k:List UInt8}:∀(m:Nat),m≤256→∀ {L:AS} {h e:Int} {l:List Int} {x:Nd},L.Ok k (256-m)→Rep f h (256-m) (tree m L)→On f k h (256-m) l e→f e=some x→x.kind=1→(x.key,x.value)∈L:=by
 have leaf:∀ {h e:Int} {l:List Int} {d:Nat} {p:List UInt8×List UInt8} {x:Nd},Rep f h d (.leaf p.1 p.2)→On f k h d l e→f e=some x→x.kind=1→(x.key,x.value)=p:=by
  intro h e l d p x hr ho hx h1;generalize ht:Tr.leaf p.1 p.2=t at hr;cases hr with
  | nil=>cases ht
  | node _ _ _ _ _=>cases ht
  | leaf hn hk =>
   injection ht with e1 e2;cases ho with
   | stop _=>rw[hn] at hx;cases hx;rw[←e1, ←e2]
   | step hn' hk' _ _=>rw[hn] at hn';cases hn';omega
 have small:∀(m d:Nat) {L:AS} {h e:Int} {l:List Int} {x:Nd},L.length≤1→Rep f h d (tree m L)→On f k h d l e→f e=some x→x.kind=1→(x.key,x.value)∈L:=fun m d L h e l x hl hr ho hx h1=>by
  match L,hl with
  | [],_ =>
   rw[CD] at hr;have:=hr.NM rfl;subst this;obtain⟨_,e0⟩:=ho.zero hz;rw[e0,hz] at hx;cases hx
  | [p],_ =>
   rw[BU] at hr;rw[leaf hr ho hx h1];simp
 intro m
 induction m with
 | zero=>intro _ L h e l x hL hr ho hx h1;exact small 0 _ hL.few hr ho hx h1
 | succ m ih =>
  intro hm L h e l x hL hr ho hx h1;by_cases h2:2≤L.length
  · rw[Bu h2] at hr
    rw[show 256-(m+1)=255-m by omega] at hL hr ho;have hdm:256-m=255-m+1:=by omega
    rw[hdm] at ih;cases hr with
    | node hn hk2 hd hl hrr =>
     cases ho with
     | stop h0 =>
      rw[hx] at hn;cases hn;omega
     | step hn' _ _ hon =>
      rw[hn] at hn';cases hn'
      have hin:=ih (by omega) (L:=sideE (AU k (255-m)) (255-m) L) hL.side (by
       rcases Au k (255-m) with hb|hb
       · rw[hb,if_pos rfl];exact hl
       rw[hb,if_neg (by decide)];exact hrr) hon hx h1
      exact(List.mem_filter.1 hin).1
  exact small (m+1) _ (by omega) hr ho hx h1
theorem NA (D:Db σ root L) (hk:key.length=32) {l:List Int} {e:Int} (ho:On (sk σ) key root 0 l e):Az σ key e=true↔key∈keysOf L:=by
 have hz:=D.good.fit.zero;constructor
 · intro h
   unfold Az at h;simp at h;cases hx:sk σ e with
   | none=>rw[Ez hx] at h;exact absurd h.1 (by decide)
   | some x =>
    rw[Ci hx,C6 hx] at h;have:=On.U5 hz 256 (Nat.le_refl _) (AS.Ok.any D.nodup D.len key) D.rep ho hx h.1;rw[h.2] at this;exact List.mem_map.2 ⟨_,this,rfl⟩
 intro h;obtain⟨p,hp,e1⟩:=List.mem_map.1 h;have hp':(key,p.2)∈L:=by rw[←e1];exact hp
 obtain⟨x,hx,h1,h2,_⟩:=On.KN hz 256 (Nat.le_refl _) (AS.Ok.any D.nodup D.len key) hp' D.rep ho;unfold Az;rw[Ci hx,C6 hx,h1,h2];simp
structure Cut (σ σ':AD Nd) (root r:Int):Prop where
 sole:aP σ root→aP σ' r
 others:∀k,k≠root→1≤held σ k→sk σ' k=sk σ k∧held σ k≤held σ' k
 keeps:∀k d t,k≠root→1≤held σ k→Rep (sk σ) k d t→Rep (sk σ') k d t
 live:Store.live σ'≤Store.live σ+256
 total:Store.total σ'≤Store.total σ+1000
 room:σ'.room=σ.room
theorem DMid.dropped (h:DMid σ σ1 key now 0 t n) (hn:n≤256) (hh:1≤held σ root) :
 Cut σ (An σ1 root).2.2 root now∧Good (An σ1 root).2.2∧Rep (sk (An σ1 root).2.2) now 0 t∧(now=0∨1≤held (An σ1 root).2.2 now):=by
 have there:∀k,1≤held σ k→∃x,sk σ k=some x:=fun k hk=>by
  obtain⟨x,hx,_⟩:=BF hk;exact⟨_,BZ hx⟩
 have hh1:1≤held σ1 root:=by
  obtain⟨x,hx⟩:=there root hh;rw[(h.old root x hx).2];split<;>omega
 obtain⟨g0,g1,g2,g3,g4,g5,g6,g7⟩:=DS h.good.sound hh1;have hdh:=Iu h.good.sound hh1
 have hrootnow:now=root→2≤held σ1 root:=fun e=>by
  obtain⟨x,hx⟩:=there root hh;rw[(h.old root x hx).2,if_pos e.symm];omega
 have hnow:now=0∨((∃y,sk (An σ1 root).2.2 now=some y)∧1≤held (An σ1 root).2.2 now):=by
  rcases h.mine with e|h1
  · exact .inl e
  right;obtain⟨y,hy,_⟩:=BF h1;by_cases e:now=root
  · obtain⟨p,q⟩:=g4 (hrootnow e)
    subst e;exact⟨⟨_,by rw[p];exact BZ hy⟩,by rw[q];have:=hrootnow rfl;omega⟩
  obtain⟨p,q⟩:=g3 now e h1;exact⟨⟨_,by rw[p];exact BZ hy⟩,by rw[q];exact h1⟩
 refine⟨⟨fun hs=>fun k hk=>?_,fun k hkr hk1=>?_,fun k d t' hkr hk1 hrk=>?_,by have:=h.live;omega,by have:=h.total;omega,by rw[g7,h.room]⟩,h.good.drop root,h.rep.shrink g2 g1.closed (hnow.imp id (fun h=>h.1)) h.good.fit.zero,hnow.imp id (fun h=>h.2)⟩
 · rcases hdh k with e|e
   · omega
   rw[e] at hk ⊢;by_cases hkr:k=root
   · rw[if_pos hkr] at hk ⊢
     obtain⟨x,hx⟩:=there root hh;have ho:=(h.old root x hx).2;have h1:=(hs root hh).2;by_cases e2:root=now
     · rw[if_pos e2] at ho
       exact⟨hkr.trans e2,by omega⟩
     rw[if_neg e2] at ho;omega
   rw[if_neg hkr] at hk ⊢;rcases h.only k hk with e2|e2
   · refine⟨e2,?_⟩
     subst e2;cases hx:sk σ k with
     | none =>
      rcases h.one hx with h1|h1
      · rw[h1,J7] at hk;omega
      exact h1
     | some x =>
      have ho:=(h.old k x hx).2;rw[if_pos rfl] at ho;have hnn:=Bn (σ:=σ1) h.good.sound k;by_cases h2:1≤held σ k
      · exact absurd (hs k h2).1 hkr
      have h3:0≤held σ k:=by
       obtain⟨y,hy,_⟩:=FC hx;by_cases h4:0≤held σ k
       · exact h4
       omega
      omega
   exact absurd (hs k e2).1 hkr
 · obtain⟨x,hx⟩:=there k hk1
   obtain⟨p,q⟩:=h.old k x hx;have hk2:1≤held σ1 k:=by rw[q];split<;>omega
   obtain⟨a,b⟩:=g3 k hkr hk2;exact⟨by rw[a,p,hx],by rw[b,q];split<;>omega⟩
 obtain⟨x,hx⟩:=there k hk1;obtain⟨p,q⟩:=h.old k x hx;have hk2:1≤held σ1 k:=by rw[q];split<;>omega
 obtain⟨a,_⟩:=g3 k hkr hk2;exact(hrk.grow (fun k x hx=>(h.old k x hx).1)).shrink g2 g1.closed (.inr ⟨x,by rw[a,p]⟩) h.good.fit.zero
end
section
variable {w0 w : World} {s : Nat} {σ σ' σ0 σ1 : AD Nd} {F G : Nat→Prop} {root r now : Int} {t : Tr} {L L' : AS} {key bs : List UInt8} {n : Nat} {R R' : List (Int×AS)}
theorem DMid.step (h:DMid σ0 σ key now 0 t n) (G:Good σ0) (hh:1≤Store.held σ0 root):Step σ0 (An σ root).2.2 root now:=by
 have hh':∀k,k≠0→Store.held σ k=Store.held σ0 k+(if k=now then 1 else 0):=fun k hk=>by
  have hn:=Bn h.good.sound k;cases hx:sk σ0 k with
  | some x=>exact(h.old k x hx).2
  | none =>
   rw[Dz hx G.sound];by_cases e:k=now
   · subst e
     rw[if_pos rfl];rcases h.one hx with h1|h1
     · exact absurd h1 hk
     omega
   rw[if_neg e];by_cases h1:1≤Store.held σ k
   · rcases h.only k h1 with h2|h2
     · exact absurd h2 e
     rw[Dz hx G.sound] at h2;omega
   omega
 have hr0:root≠0:=fun e=>by rw[e,J7] at hh;omega
 have hr1:1≤Store.held σ root:=by rw[hh' root hr0];split<;>omega
 have hd:=I4 h.good hr1;refine⟨hd.good,fun k x hx=>hd.agree k x (h.old k x hx).1,fun k hk=>?_⟩;rw[hd.held k hk,hh' k hk,if_neg hk];omega
theorem Qn (h:Ow w0 w s σ G) (D:BE σ ((root,L)::R)) (hk:key.length=32) (hroom:live σ+258≤σ.room) (htot:total σ+1000<1073741824) :
 Calls Tryz.prog 61 #[.pointer (some ⟨s,0,none⟩),.int .i64 root,.agg (AK key)] w fun e w'=>∃r σ' gone,e=.returned (.tuple #[.int .i64 r,.bool gone,.int .i64 0])∧Ow w0 w' s σ' G∧But G w w' ∧
  WroteR σ σ' root r 256 1000∧BE σ' ((r,Bm L key)::R)∧(gone=true↔key∈keysOf L)∧(gone=false→r=root∧σ'=σ):=by
 have D0:Db σ root L:=D.db (List.mem_cons_self ..);have hz:=D0.good.fit.zero;obtain⟨l,e1,ho⟩:=On.ex (k:=key) D0.rep;have hf:Cw σ 1=true:=by rw[GN,D0.good.used];exact decide_eq_true hroom
 have hth:=NA D0 hk ho;cases hs:Az σ key e1 with
 | false =>
  obtain⟨F,hAt⟩:=h.at;have hno:key∉keysOf L:=fun hm=>by have:=hth.2 hm;rw[hs] at this;cases this
  exact(Yd hAt D0.good root key hk D0.hand hf ho hs).mono fun e w' ⟨he,ha⟩=>⟨root,σ,false,he,h.adds ha,Adds.but ha,⟨Step.refl D0.good root,Nat.le_add_right _ _,Nat.le_add_right _ _,rfl⟩,by rw[Gj hno];exact D,⟨fun h=>(by cases h),fun h=>absurd h hno⟩,fun _=>⟨rfl,rfl⟩⟩
 | true =>
  obtain⟨n,hn,hm⟩:=VO D0.good hk D0.rep ho hs (by omega) htot
  have hr0:root≠0:=fun e=>by
   subst e;obtain⟨_,e⟩:=ho.zero hz;unfold Az at hs;rw[e] at hs;have:(nd σ 0).kind=0:=Ez hz;rw[this] at hs;simp at hs
  have hh:=D0.held.resolve_left hr0;obtain⟨c1,c2,c3,c4⟩:=hm.dropped hn hh;have hst:=hm.step D0.good hh;have hdt:=WI (k:=key) 256 (Nat.le_refl _) (AS.Ok.any D0.nodup D0.len key) hk;rw[Nat.sub_self] at hdt;rw[hdt] at c3;exact(Uy h D0.good root key hk D0.hand hf ho hs).mono fun e w' ⟨he,ho',hb'⟩=>⟨_,_,true,he,ho',hb',⟨hst,c1.live,c1.total,c1.room⟩,D.step hst c3 (D0.nodup.sublist (keys_filter L _)) (fun p hp=>D0.len p (List.mem_filter.1 hp).1),⟨fun _=>hth.1 hs,fun _=>rfl⟩,fun h=>(by cases h)⟩
end
end Go.Proofs.YtngbdbpofifimaaGreat.Store
