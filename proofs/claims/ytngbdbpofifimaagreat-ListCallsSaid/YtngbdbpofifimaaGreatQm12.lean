/- Laws of the layers below. -/
import Derived.Test.YtngbdbpofifimaaGreatQm10
set_option maxHeartbeats 3200000
set_option maxRecDepth 100000
set_option linter.unusedVariables false
namespace Go.Proofs.YtngbdbpofifimaaGreat.Store
open Go.RowKit Go.Proofs.YtngbdbpofifimaaGreat.ShaW Go.Proofs.YtngbdbpofifimaaGreat.Path
noncomputable def CY (σ:AG Nd) (k:List UInt8) (d:Int) (own other:Int):Int×Int×AG Nd:=Ag σ d (if bit k d=1 then other else own) (if bit k d=1 then own else other)
noncomputable def chainS (k:List UInt8) (lo:Nat):Nat→AG Nd→Int→Int×AG Nd
 | 0,σ,now=>(now,σ)
 | n+1,σ,now=>chainS k lo n (CY σ k (lo+n:Nat) now 0).2.2 (CY σ k (lo+n:Nat) now 0).1
def DB (σ:AG Nd) (k:List UInt8) (h:Int) (d:Nat):Int:=if bit k (d:Nat)=1 then (nd σ h).left else (nd σ h).right
noncomputable def Bt (σ:AG Nd) (o:Int):AG Nd:=if o≠0 then (Au σ o).2 else σ
noncomputable def NU (σ:AG Nd) (k:List UInt8) (h:Int) (d:Nat) (now:Int):Int×AG Nd :=
 ((CY (Bt σ (DB σ k h d)) k (d:Nat) now (DB σ k h d)).1,(CY (Bt σ (DB σ k h d)) k (d:Nat) now (DB σ k h d)).2.2)
noncomputable def upL (k:List UInt8):Nat→List Int→AG Nd→Int→Int×AG Nd
 | _,[],σ,now=>(now,σ)
 | d,h::l,σ,now=>NU (upL k (d+1) l σ now).2 k h d (upL k (d+1) l σ now).1
noncomputable def Eu (σ:AG Nd) (key value:List UInt8) (v:Value) (d:Nat) (e:Int):Int×AG Nd :=
 if (nd σ e).kind=1∧(nd σ e).key≠key then
  chainS key d (common key (nd σ e).key-d) (CY (Au (As σ key value v).2.2 e).2 key (common key (nd σ e).key:Nat) (As σ key value v).1 e).2.2 (CY (Au (As σ key value v).2.2 e).2 key (common key (nd σ e).key:Nat) (As σ key value v).1 e).1
 else ((As σ key value v).1,(As σ key value v).2.2)
noncomputable def E9 (σ:AG Nd) (key value:List UInt8) (v:Value) (l:List Int) (e:Int):Int×AG Nd :=
 upL key 0 l (Eu σ key value v l.length e).2 (Eu σ key value v l.length e).1
noncomputable def Fv (σ:AG Nd) (root:Int) (key value:List UInt8) (v:Value) (l:List Int) (e:Int):Int×AG Nd :=
 ((E9 σ key value v l e).1,if root≠0 then (Aw (E9 σ key value v l e).2 root).2.2 else (E9 σ key value v l e).2)
def Dh (σ:AG Nd) (key value:List UInt8) (e:Int):Bool:=decide ((nd σ e).kind=1)&&(decide ((nd σ e).key=key)&&decide ((nd σ e).value=value))
def B7 (σ:AG Nd) (key:List UInt8) (e:Int):Bool:=decide ((nd σ e).kind=1)&&decide ((nd σ e).key≠key)
def Az (σ:AG Nd) (root:Int):Int:=if AX σ root≠0 then AX σ root else if root≠0∧(nd σ root).held=0 then 7 else 0
section
variable {σ : AG Nd}
theorem Good.join (h:Good σ) (k:List UInt8) (d own other:Int):Good (CY σ k d own other).2.2:=h.inner _ _ _
theorem Good.chain {k:List UInt8} {lo:Nat}:∀(n:Nat) {σ:AG Nd} (h:Good σ) (now:Int),Good (chainS k lo n σ now).2
 | 0,_,h,_=>h
 | n+1,_,h,now=>Good.chain n (h.join k _ now 0) _
theorem Good.Bt (h:Good σ) (o:Int):Good (Store.Bt σ o):=by
 unfold Store.Bt;split
 · exact h.hold o
 exact h
theorem Good.step (h:Good σ) (k:List UInt8) (n:Int) (d:Nat) (now:Int):Good (NU σ k n d now).2:=(h.Bt _).join k _ _ _
theorem Good.up {k:List UInt8}:∀(l:List Int) (d:Nat) {σ:AG Nd} (h:Good σ) (now:Int),Good (upL k d l σ now).2
 | [],_,_,h,_=>h
 | n::l,d,_,h,now=>(Good.up l (d+1) h now).step k n d _
theorem Good.ended (h:Good σ) {key:List UInt8} (hk:key.length=32) (value:List UInt8) (v:Value) (d:Nat) (e:Int):Good (Eu σ key value v d e).2:=by
 unfold Eu;split
 · exact Good.chain _ (((h.leaf key value v hk).hold e).join key _ _ _) _
 exact h.leaf key value v hk
theorem Good.made (h:Good σ) {key:List UInt8} (hk:key.length=32) (value:List UInt8) (v:Value) (l:List Int) (e:Int):Good (E9 σ key value v l e).2:=Good.up l 0 (h.ended hk value v l.length e) _
def Xw (σ:AG Nd) (h:Int):Prop:=h=0∨(1≤held σ h∧((nd σ h).kind=2→(nd σ h).depth=0))
end
section
variable {σ0 σ τ : AG Nd} {key : List UInt8} {now other : Int} {d n : Nat} {t u : Tr}
theorem Ih {k:Int} {x:Nd} (hx:sk σ k=some x):stat (nd σ k)=x:=by rw[←Dj];exact Bn hx
theorem Ho {k:Int} {x:Nd} (hx:sk σ k=some x):(nd σ k).key=x.key:=by have:=congrArg Nd.key (Ih hx);exact this
theorem MP {k:Int} {x:Nd} (hx:sk σ k=some x):(nd σ k).kind=x.kind:=by have:=congrArg Nd.kind (Ih hx);exact this
theorem UU {k:Int} {x:Nd} (hx:sk σ k=some x):(nd σ k).left=x.left:=by have:=congrArg Nd.left (Ih hx);exact this
theorem Tv {k:Int} {x:Nd} (hx:sk σ k=some x):(nd σ k).right=x.right:=by have:=congrArg Nd.right (Ih hx);exact this
theorem Ka {k:Int} {x:Nd} (hx:sk σ k=some x):(nd σ k).value=x.value:=by have:=congrArg Nd.value (Ih hx);exact this
theorem Jh {k:Int} (hx:sk σ k=none):(nd σ k).kind=0:=by
 cases hg:σ.get? k with
 | none=>rw[B9 hg];rfl
 | some x=>rw[Bl hg] at hx;cases hx
theorem D7 (hs:Sound σ []) (k:Int):0≤held σ k:=by
 cases hx:σ.get? k with
 | none=>rw[Io hx];omega
 | some x=>rw[Br hx];exact hs.held k x hx
theorem Cs.side {k:Int} (h:Cs σ k):k=0∨∃y,sk σ k=some y:=h.ok.imp id fun h=>by
 obtain⟨x,hx,_⟩:=Bd h;exact⟨_,Bl hx⟩
theorem O4 (G:Good σ) (ho:other=0∨∃y,sk σ other=some y) (hc:total σ<1073741824) :
 (∀k,sk (Bt σ other) k=sk σ k)∧(∀k,held (Bt σ other) k=if k≠0∧k=other then held σ k+1 else held σ k) ∧
  live (Bt σ other)=live σ∧total (Bt σ other)≤total σ+1∧(Bt σ other).room=σ.room:=by
 rcases ho with rfl|⟨y,hy⟩
 · have:Bt σ 0=σ:=by unfold Bt;rw[if_neg (by simp)]
   rw[this];refine⟨fun _=>rfl,fun k=>?_,rfl,by omega,rfl⟩;rw[if_neg (fun h=>h.1 h.2)]
 have h0:other≠0:=G.fit.ne hy;have:Bt σ other=(Au σ other).2:=by unfold Bt;rw[if_pos h0]
 rw[this];obtain⟨x,hx,rfl⟩:=Ev hy;have hle:=count_le hx;obtain⟨_,h2,h3,h4,h5,h6⟩:=Jl G.sound hx (by omega);refine⟨h2,fun k=>?_,h4,by omega,h6⟩;rw[h3];by_cases hk:k=other
 · rw[if_pos hk,if_pos ⟨hk▸h0,hk⟩,hk]
 rw[if_neg hk,if_neg (fun h=>hk h.2)]
theorem Lf (G:Good τ) (hu:τ.used<τ.room) (hd:d≤255) {l r:Int} (sl:Cs τ l) (sr:Cs τ r) (hf:fitsB d l r (nd τ l) (nd τ r)=true) {tl tr:Tr}
 (rl:Rep (sk τ) l (d+1) tl) (rr:Rep (sk τ) r (d+1) tr) (pl:∀y,sk τ l=some y→Pre y.key key d) (pr:∀y,sk τ r=some y→Pre y.key key d) :
 Rep (sk (Ag τ d l r).2.2) (Ag τ d l r).1 d (.node tl tr)∧∃y,sk (Ag τ d l r).2.2 (Ag τ d l r).1=some y∧Pre y.key key d:=by
 obtain⟨_,_,h2,h3,_⟩:=GL G.sound hu (by omega) (by omega) sl sr hf
 have hgrow:∀k x,sk τ k=some x→sk (Ag τ d l r).2.2 k=some x:=fun k x hx=>by
  rw[h3,if_neg (fun e=>by rw[e,h2] at hx;cases hx)];exact hx
 have hnew:=h3 (Ag τ d l r).1;rw[if_pos rfl] at hnew;refine⟨.node hnew rfl rfl (rl.grow hgrow) (rr.grow hgrow),_,hnew,?_⟩
 show Pre (Path.first (if l=0 then (nd τ r).key else (nd τ l).key) d) key d
 by_cases h0:l=0
 · rw[if_pos h0]
   obtain⟨y,hy⟩:=sr.side.resolve_left (En hf h0).1;rw[Ho hy];exact(Gf _ d).trans (pr y hy)
 rw[if_neg h0];obtain⟨y,hy⟩:=sl.side.resolve_left h0;rw[Ho hy];exact(Gf _ d).trans (pl y hy)
structure PutMid (σ0 σ:AG Nd) (key:List UInt8) (now:Int) (d:Nat) (t:Tr) (n:Nat):Prop where
 good:Good σ
 old:∀k x,sk σ0 k=some x→sk σ k=some x∧held σ k=held σ0 k
 fresh:sk σ0 now=none
 there:∃y,sk σ now=some y∧Pre y.key key d
 one:held σ now=1
 only:∀k,1≤held σ k→k=now∨1≤held σ0 k
 rep:Rep (sk σ) now d t
 live:live σ=live σ0+n
 total:total σ≤total σ0+2*n
 room:σ.room=σ0.room
theorem PutMid.ne (h:PutMid σ0 σ key now d t n):now≠0:=by obtain⟨y,hy,_⟩:=h.there;exact h.good.fit.ne hy
theorem Rep.G5 {f:View} {h:Int} {x:Nd} (hr:Rep f h d t) (hx:f h=some x) (hz:f 0=none):x.kind=2→x.depth=(d:Nat):=fun hk=>by
 cases hr with
 | nil=>rw[hz] at hx;cases hx
 | leaf hn h1=>rw[hn] at hx;cases hx;omega
 | node hn _ h2 _ _=>rw[hn] at hx;cases hx;exact h2
theorem Rep.Pe {f:View} (hz:f 0=none) {h:Int} {x:Nd} (hr:Rep f h d t) (hx:f h=some x) (hk:x.kind=2):t.isNode=true:=by
 cases hr with
 | nil=>rw[hz] at hx;cases hx
 | leaf hn h1=>rw[hn] at hx;cases hx;omega
 | node _ _ _ _ _=>rfl
theorem Rep.isNode {f:View} {h:Int} {x:Nd} (hr:Rep f h d t) (hx:f h=some x) (hz:f 0=none) (ht:t.isNode=true):x.kind=2:=by
 cases hr with
 | nil=>cases ht
 | leaf hn h1=>cases ht
 | node hn hk _ _ _=>rw[hn] at hx;cases hx;exact hk
theorem On.Ud {f:View} (hz:f 0=none) {h:Int} {l:List Int} {e:Int} (ho:On f key h d l e):∀ {t:Tr},Rep f h d t→∃te,Rep f e (d+l.length) te:=by
 induction ho with
 | stop _=>exact fun ht=>⟨_,ht⟩
 | @step h d x l e hn hk hd hr ih =>
  intro t ht;have e1:d+(h::l).length=d+1+l.length:=by simp only[List.length_cons];omega
  rw[e1];cases ht with
  | nil=>rw[hz] at hn;cases hn
  | leaf hn' hk'=>rw[hn] at hn';cases hn';omega
  | @node _ _ x' tl tr hn' _ _ hl hr' =>
   rw[hn] at hn';cases hn';exact ih (t:=if Ao key d=0 then tl else tr) (by split<;>assumption)
theorem PutMid.start (G:Good σ0) (hu:Store.live σ0<σ0.room) (hk:key.length=32) (value:List UInt8) (v:Value) (hv:value.length≤1024) (d:Nat) :
 PutMid σ0 (As σ0 key value v).2.2 key (As σ0 key value v).1 d (.leaf key value) 1:=by
 obtain⟨_,h1,h2,h3,h4,h5,h6,h7⟩:=J9 G.sound (by rw[G.used];exact hu) key value v hv;have hnew:=h3 (As σ0 key value v).1;rw[if_pos rfl] at hnew;refine⟨G.leaf key value v hk,fun k x hx=>?_,h2,⟨_,hnew,fun _ _=>rfl⟩,by rw[h4,if_pos rfl],fun k hk=>?_,.leaf hnew rfl,by omega,by omega,h7⟩
 · have:k≠(As σ0 key value v).1:=fun e=>by rw[e,h2] at hx;cases hx
   rw[h3,h4,if_neg this,if_neg this];exact⟨hx,rfl⟩
 rw[h4] at hk;by_cases e:k=(As σ0 key value v).1
 · exact .inl e
 rw[if_neg e] at hk;exact .inr hk
def Ta (σ0:AG Nd) (key:List UInt8) (d:Nat) (t:Tr) (other:Int) (u:Tr):Prop :=
 (other=0∧u=.nil∧t.isNode=true)∨∃y,sk σ0 other=some y∧Rep (sk σ0) other (d+1) u∧Pre y.key key d∧Ao y.key d≠Ao key d
theorem PutMid.join (h:PutMid σ0 σ key now (d+1) t n) (hd:d≤255) (hroom:Store.live σ0+n<σ0.room) (htot:Store.total σ0+2*n+2<1073741824) (hk:key.length=32) (ho:Ta σ0 key d t other u) :
 PutMid σ0 (CY (Bt σ other) key (d:Nat) now other).2.2 key (CY (Bt σ other) key (d:Nat) now other).1 d (Store.mk key d t u) (n+1):=by
 obtain⟨y,hy,hyp⟩:=h.there;have hz:=h.good.fit.zero;have h0:=h.ne
 have hother:other=0∨∃z,sk σ other=some z∧Rep (sk σ) other (d+1) u∧Pre z.key key d∧Ao z.key d≠Ao key d:=by
  rcases ho with⟨e,_,_⟩|⟨z,z1,z2,z3,z4⟩
  · exact .inl e
  exact .inr ⟨z,(h.old _ _ z1).1,z2.grow (fun k x hx=>(h.old k x hx).1),z3,z4⟩
 have hno:now≠other:=fun e=>by
  rcases ho with⟨e2,_,_⟩|⟨z,z1,_⟩
  · exact h0 (e.trans e2)
  rw[←e,h.fresh] at z1;cases z1
 obtain⟨s1,s2,s3,s4,s5⟩:=O4 h.good (other:=other) (hother.imp id fun ⟨z,z1,_⟩=>⟨z,z1⟩) (by have:=h.total;omega);have G:=h.good.Bt other;have e0:sk (Bt σ other)=sk σ:=funext s1;obtain⟨τ,hτ⟩:∃τ,τ=Bt σ other:=⟨_,rfl⟩
 rw[←hτ] at s1 s2 s3 s4 s5 G e0 ⊢;have hu:τ.used<τ.room:=by rw[G.used,s3,s5,h.room];have:=h.live;omega
 have snow:Cs τ now:=⟨.inr (by rw[s2,if_neg (fun e=>hno e.2)];have:=h.one;omega)⟩
 have soth:Cs τ other:=⟨by
  by_cases e:other=0
  · exact .inl e
  right;rw[s2,if_pos ⟨e,rfl⟩];have:=D7 h.good.sound other;omega⟩
 have rnow:Rep (sk τ) now (d+1) t:=by rw[e0];exact h.rep
 have roth:Rep (sk τ) other (d+1) u:=by
  rw[e0];rcases ho with⟨e,e2,_⟩|⟨z,z1,z2,z3,z4⟩
  · rw[e,e2];exact .nil
  exact z2.grow (fun k x hx=>(h.old k x hx).1)
 have pnow:∀y,sk τ now=some y→Pre y.key key d:=fun x hx=>by
  rw[e0,hy] at hx;cases hx;exact hyp.less (by omega)
 have poth:∀y,sk τ other=some y→Pre y.key key d∧Ao y.key d≠Ao key d:=fun x hx=>by
  rw[e0] at hx;rcases hother with e|⟨z,z1,z2,z3,z4⟩
  · rw[e,hz] at hx;cases hx
  rw[z1] at hx;cases hx;exact⟨z3,z4⟩
 have nnow:ndF (sk τ) now=y:=Bn (by rw[e0];exact hy);have hyt:sk τ now=some y:=by rw[e0];exact hy
 have hzt:sk τ 0=none:=by rw[e0];exact hz
 have ydep:y.kind=2→y.depth=(d:Int)+1:=fun hk=>by have:=rnow.G5 hyt hzt hk;omega
 have ybit:Ao y.key d=Ao key d:=hyp d (by omega);have yb:bit y.key (d:Nat)=(Ao key d:Nat):=by rw[Da (by omega),ybit]
 have yfit:CO y (d:Nat) (Ao key d:Nat)=true:=JW ydep yb
 have ofit:other≠0→∃z,sk τ other=some z∧ndF (sk τ) other=z∧CO z (d:Nat) (1-Ao key d:Nat)=true∧(d:Int)≤(common y.key z.key:Nat)∧(d:Int)≤(common z.key y.key:Nat):=fun e=>by
  obtain⟨z,z1⟩:=soth.side.resolve_left e;obtain⟨z3,z4⟩:=poth z z1;have zl:z.key.length=32:=(G.fit.all _ _ z1).key;have yl:y.key.length=32:=(G.fit.all _ _ hyt).key;refine⟨z,z1,Bn z1,JW (fun hk=>by have:=roth.G5 z1 hzt hk;omega) ?_,?_,?_⟩
  · rw[Da (by omega)]
    rcases BX z.key d with h1|h1<;>rcases BX key d with h2|h2<;>rw[h1,h2] at z4 ⊢
    · exact absurd rfl z4
    exact absurd rfl z4
  · have:=Cz yl zl (d:=d) (by omega) ((pnow y hyt).trans z3.symm);omega
  have:=Cz zl yl (d:=d) (by omega) (z3.trans (pnow y hyt).symm);omega
 have olone:other=0→y.kind=2:=fun e=>by
  rcases ho with⟨_,_,e3⟩|⟨z,z1,_⟩
  · exact rnow.isNode hyt hzt e3
  have:=h.old _ _ z1;rw[e,hz] at this;cases this.1
 have key1:∀l r:Int,Cs τ l→Cs τ r→fitsB (d:Nat) l r (nd τ l) (nd τ r)=true→(l=now∧r=other∨l=other∧r=now)→∀T:Tr,Rep (sk (Ag τ (d:Nat) l r).2.2) (Ag τ (d:Nat) l r).1 d T →
  (∃y,sk (Ag τ (d:Nat) l r).2.2 (Ag τ (d:Nat) l r).1=some y∧Pre y.key key d)→PutMid σ0 (Ag τ (d:Nat) l r).2.2 key (Ag τ (d:Nat) l r).1 d T (n+1):=fun l r sl sr hf hlr T hT hP=>by
  obtain⟨_,q1,q2,q3,q4,q5,q6,q7⟩:=GL G.sound hu (d:=(d:Nat)) (by omega) (by omega) sl sr hf
  have hold:∀k x,sk σ0 k=some x→k≠(Ag τ (d:Nat) l r).1:=fun k x hx e=>by
   have:=(h.old k x hx).1;rw[←s1,e,q2] at this;cases this
  refine⟨G.inner _ _ _,fun k x hx=>?_,?_,hP,by rw[q4,if_pos rfl],fun k hk=>?_,hT,by have:=h.live;omega,by have:=h.total;omega,by rw[q7,s5,h.room]⟩
  · have hk1:=hold k x hx
    obtain⟨p1,p2⟩:=h.old k x hx;have hk2:k≠now:=fun e=>by rw[e,h.fresh] at hx;cases hx
    rw[q3,if_neg hk1,s1,q4,if_neg hk1];refine⟨p1,?_⟩;rw[s2];have hk0:k≠0:=fun e=>by rw[e,hz] at p1;cases p1
    by_cases hko:k=other
    · have hor:k=l∨k=r:=by
       rcases hlr with⟨_,e⟩|⟨e,_⟩
       · exact .inr (by rw[hko,e])
       exact .inl (by rw[hko,e])
      rw[if_pos ⟨hk0,hor⟩,if_pos ⟨hk0,hko⟩,p2];omega
    rw[if_neg,if_neg (fun e=>hko e.2),p2];rintro⟨_,e|e⟩<;>rcases hlr with⟨e1,e2⟩|⟨e1,e2⟩
    · exact hk2 (e.trans e1)
    · exact hko (e.trans e1)
    · exact hko (e.trans e2)
    exact hk2 (e.trans e2)
  · cases hx:sk σ0 (Ag τ (d:Nat) l r).1 with
    | none=>rfl
    | some x=>exact absurd rfl (hold _ x hx)
  rw[q4] at hk;by_cases e:k=(Ag τ (d:Nat) l r).1
  · exact .inl e
  right;rw[if_neg e] at hk
  have hk0:k≠0:=fun e0=>by
   have hz0:held τ k=0:=by
    rw[e0];unfold held nd;rfl
   split at hk<;>omega
  by_cases hkn:k=now
  · exfalso
    have hor:k=l∨k=r:=by
     rcases hlr with⟨e1,_⟩|⟨_,e1⟩
     · exact .inl (by rw[hkn,e1])
     exact .inr (by rw[hkn,e1])
    rw[if_pos ⟨hk0,hor⟩,hkn,s2,if_neg (fun e=>hno e.2),h.one] at hk;omega
  have hsk:1≤held σ k:=by
   by_cases hko:k=other
   · have hor:k=l∨k=r:=by
      rcases hlr with⟨_,e1⟩|⟨e1,_⟩
      · exact .inr (by rw[hko,e1])
      exact .inl (by rw[hko,e1])
     rw[if_pos ⟨hk0,hor⟩,s2,if_pos ⟨hk0,hko⟩] at hk;omega
   rw[if_neg,s2,if_neg (fun e=>hko e.2)] at hk
   · exact hk
   rintro⟨_,e1|e1⟩<;>rcases hlr with⟨e2,e3⟩|⟨e2,e3⟩
   · exact hkn (e1.trans e2)
   · exact hko (e1.trans e2)
   · exact hko (e1.trans e3)
   exact hkn (e1.trans e3)
  exact(h.only k hsk).resolve_left hkn
 have hb:bit key (d:Nat)=(Ao key d:Nat):=Da (by omega);unfold CY Store.mk;rcases BX key d with hb0|hb1
 · rw[hb,hb0]
   simp only[show((0:Nat):Int)≠1 by decide,if_false,if_true]
   have hf:fitsB (d:Nat) now other (nd τ now) (nd τ other)=true:=by
    rw[Ib,nnow];unfold fitsB;rw[if_neg h0];rw[hb0] at yfit ofit;by_cases e:other=0
    · rw[if_pos e];simp only[olone e,decide_true,Bool.true_and];exact yfit
    rw[if_neg e];obtain⟨z,z1,z2,z3,z4,z5⟩:=ofit e;rw[z2,show CO y (d:Nat) 0=true from yfit,show CO z (d:Nat) 1=true from z3,decide_eq_true z4];rfl
   obtain⟨hT,hP⟩:=Lf G hu hd snow soth hf rnow roth pnow (fun y hy=>(poth y hy).1);exact key1 now other snow soth hf (.inl ⟨rfl,rfl⟩) _ hT hP
 rw[hb,hb1];simp only[show((1:Nat):Int)=1 from rfl,show ¬((1:Nat)=0) by decide,if_false,if_true]
 have hf:fitsB (d:Nat) other now (nd τ other) (nd τ now)=true:=by
  rw[Ib,nnow];unfold fitsB;rw[hb1] at yfit ofit;by_cases e:other=0
  · rw[if_pos e,if_neg h0];simp only[olone e,decide_true,Bool.true_and];exact yfit
  rw[if_neg e,if_neg h0];obtain⟨z,z1,z2,z3,z4,z5⟩:=ofit e;rw[z2,show CO y (d:Nat) 1=true from yfit,show CO z (d:Nat) 0=true from z3,decide_eq_true z5];rfl
 obtain⟨hT,hP⟩:=Lf G hu hd soth snow hf roth rnow (fun y hy=>(poth y hy).1) pnow;exact key1 other now soth snow hf (.inr ⟨rfl,rfl⟩) _ hT hP
theorem OI (σ:AG Nd):Bt σ 0=σ:=by unfold Bt;rw[if_neg (by simp)]
theorem PutMid.chain (hk:key.length=32) (lo:Nat):∀(m:Nat) {σ:AG Nd} {now:Int} {t:Tr} {n:Nat},PutMid σ0 σ key now (lo+m) t n→lo+m≤256→Store.live σ0+n+m≤σ0.room→Store.total σ0+2*n+2*m+2<1073741824→(m=0∨t.isNode=true) →
 PutMid σ0 (chainS key lo m σ now).2 key (chainS key lo m σ now).1 lo (Ey key lo m t) (n+m)
 | 0,_,_,_,_,h,_,_,_,_=>h
 | m+1,σ,now,t,n,h,h1,h2,h3,h4=>by
  have hj:=PutMid.join (d:=lo+m) (other:=0) (u:=.nil) h (by omega) (by omega) (by omega) hk (.inl ⟨rfl,rfl,h4.resolve_left (by omega)⟩);rw[OI] at hj;have:=PutMid.chain hk lo m hj (by omega) (by omega) (by omega) (.inr (Ps ..));rw[show n+(m+1)=n+1+m by omega];exact this
def El (σ:AG Nd) (key:List UInt8) (d:Nat) (e:Int):Nat:=if (nd σ e).kind=1∧(nd σ e).key≠key then common key (nd σ e).key-d+2 else 1
theorem Uj (σ:AG Nd) (G:Good σ) {e:Int} {te:Tr} (hd:d≤256) (he:Rep (sk σ) e d te) (hs:e=0∨∃x,sk σ e=some x∧x.kind≠2) (v:List UInt8) :
 ins key v d te=if (nd σ e).kind=1∧(nd σ e).key≠key then Ey key d (common key (nd σ e).key-d) (Store.mk key (common key (nd σ e).key) (.leaf key v) (.leaf (nd σ e).key (nd σ e).value)) else .leaf key v:=by
 cases he with
 | nil =>
  rw[if_neg (fun h=>by have:=h.1;exact absurd (show(0:Nat)=1 from this) (by decide))];rfl
 | leaf hn h1 =>
  rw[MP hn,Ho hn,Ka hn];unfold ins;rename_i n;by_cases hk:n.key=key
  · rw[if_pos hk,if_neg (fun h=>h.2 hk)]
  rw[if_neg hk,if_pos ⟨h1,hk⟩]
 | node hn hk _ _ _ =>
  rcases hs with e0|⟨x,hx,hx2⟩
  · exact absurd e0 (G.fit.ne hn)
  rw[hn] at hx;cases hx;exact absurd hk hx2
theorem PutMid.ended (G:Good σ0) (hk:key.length=32) (value:List UInt8) (v:Value) (hv:value.length≤1024) (hd:d≤256) {e:Int} {te:Tr} (he:Rep (sk σ0) e d te) (hs:e=0∨∃x,sk σ0 e=some x∧x.kind≠2)
 (hp:∀x,sk σ0 e=some x→Pre x.key key d) (hroom:Store.live σ0+El σ0 key d e≤σ0.room) (htot:Store.total σ0+2*El σ0 key d e+2<1073741824) :
 PutMid σ0 (Eu σ0 key value v d e).2 key (Eu σ0 key value v d e).1 d (ins key value d te) (El σ0 key d e):=by
 rw[Uj σ0 G hd he hs];unfold Eu El at *;by_cases hc:(nd σ0 e).kind=1∧(nd σ0 e).key≠key
 · rw[if_pos hc] at hroom htot
   rw[if_pos hc,if_pos hc,if_pos hc]
   obtain⟨x,hx⟩:∃x,sk σ0 e=some x:=by
    cases hx:sk σ0 e with
    | none=>have:=Jh hx;have:=hc.1;omega
    | some x=>exact⟨x,rfl⟩
   have e0:=G.fit.ne hx;have ek:=Ho hx;have ev:=Ka hx;have hk1:x.kind=1:=by rw[←MP hx];exact hc.1
   rw[ek] at hc hroom htot ⊢;rw[ev];have xl:x.key.length=32:=(G.fit.all _ _ hx).key;have hdc:=Cz hk xl hd (hp x hx).symm;obtain⟨c1,c2,c3⟩:=CA key x.key (by omega) (Ne.symm hc.2);rw[hk] at c1;obtain⟨c,hcc⟩:∃c,c=common key x.key:=⟨_,rfl⟩
   rw[←hcc] at hdc c1 c2 c3 hroom htot ⊢;have m1:=PutMid.start G (by omega) hk value v hv (c+1);have hj:=m1.join (other:=e) (u:=.leaf x.key x.value) (by omega) (by omega) (by omega) hk (.inr ⟨x,hx,.leaf hx hk1,c2.symm,Ne.symm c3⟩);have eh:Bt (As σ0 key value v).2.2 e=(Au (As σ0 key value v).2.2 e).2:=by unfold Bt;rw[if_pos e0]
   rw[eh] at hj;have:=PutMid.chain hk d (c-d) (show PutMid σ0 _ key _ (d+(c-d)) _ _ by rw[show d+(c-d)=c by omega];exact hj) (by omega) (by omega) (by omega) (.inr (Ps ..));rw[show c-d+2=1+1+(c-d) by omega];exact this
 rw[if_neg hc] at hroom htot;rw[if_neg hc,if_neg hc,if_neg hc];exact PutMid.start G (by omega) hk value v hv d
theorem OJ (k v:List UInt8) (d:Nat) {t:Tr} (h:t.isNode=true):(ins k v d t).isNode=true:=by
 cases t with
 | nil=>cases h
 | leaf _ _=>cases h
 | node l r=>unfold ins;split<;>rfl
theorem Rep.zero {f:View} (hz:f 0=none) (h:Rep f 0 d t):t=.nil:=h.det hz .nil
theorem PutMid.up (G:Good σ0) (hk:key.length=32) (value:List UInt8) {σ:AG Nd} {now:Int} {n:Nat} {te:Tr} {h:Int} {l:List Int} {e:Int} (ho:On (sk σ0) key h d l e):∀ {t:Tr},Rep (sk σ0) h d t→Rep (sk σ0) e (d+l.length) te →
 (∀x,sk σ0 h=some x→Pre x.key key d)→PutMid σ0 σ key now (d+l.length) (ins key value (d+l.length) te) n→Store.live σ0+n+l.length≤σ0.room→Store.total σ0+2*n+2*l.length+2<1073741824 →
 PutMid σ0 (upL key d l σ now).2 key (upL key d l σ now).1 d (ins key value d t) (n+l.length):=by
 have hz:=G.fit.zero
 induction ho with
 | stop _ =>
  intro t ht he _ hm _ _;rw[ht.det hz he];exact hm
 | @step h d x l e hn h2 hd hr ih =>
  intro t ht he hp hm hroom htot;have hp':=hp x hn;have hd1:=(G.fit.inner hn h2).d1;obtain⟨w1,w2⟩:=G.fit.way hn h2 hd hp';have hlen:∀a:Nat,a+(h::l).length=a+1+l.length:=fun a=>by simp only[List.length_cons];omega
  cases ht with
  | nil=>rw[hz] at hn;cases hn
  | leaf hn' hk'=>rw[hn] at hn';cases hn';omega
  | @node _ _ x' tl tr hn' _ _ hl hr' =>
   rw[hn] at hn';cases hn';rw[hlen] at he hm;have hrown:Rep (sk σ0) (if Ao key d=0 then x.left else x.right) (d+1) (if Ao key d=0 then tl else tr):=by split<;>assumption
   have hroth:Rep (sk σ0) (if Ao key d=0 then x.right else x.left) (d+1) (if Ao key d=0 then tr else tl):=by split<;>assumption
   have hm1:=ih hrown he w1 hm (by rw[List.length_cons] at hroom;omega) (by rw[List.length_cons] at htot;omega);have hsk:=(hm1.old h x hn).1
   have hbs:DB (upL key (d+1) l σ now).2 key h d=(if Ao key d=0 then x.right else x.left):=by
    unfold DB;rw[UU hsk,Tv hsk,Da (show d<256 by omega)];rcases BX key d with hb|hb
    · rw[hb];rfl
    rw[hb];rfl
   have hi:=G.fit.inner hn h2
   have hB:Ta σ0 key d (ins key value (d+1) (if Ao key d=0 then tl else tr)) (if Ao key d=0 then x.right else x.left) (if Ao key d=0 then tr else tl):=by
    by_cases h0:(if Ao key d=0 then x.right else x.left)=0
    · refine .inl ⟨h0,?_,OJ _ _ _ ?_⟩
      · rw[h0] at hroth;exact hroth.zero hz
      rcases BX key d with hb|hb
      · rw[if_pos hb] at h0 ⊢
        rw[if_pos hb,if_pos hb] at hrown;obtain⟨q1,q2⟩:=JH hi.fits h0;obtain⟨y,hy⟩:=hi.left.resolve_left q1;rw[Bn hy] at q2;exact hrown.Pe hz hy q2
      have hb:¬Ao key d=0:=by omega
      rw[if_neg hb] at h0 ⊢;rw[if_neg hb,if_neg hb] at hrown;obtain⟨q1,q2⟩:=En hi.fits h0;obtain⟨y,hy⟩:=hi.right.resolve_left q1;rw[Bn hy] at q2;exact hrown.Pe hz hy q2
    obtain⟨y,hy⟩:=hroth.live.resolve_left h0;obtain⟨p1,p2⟩:=w2 y hy;exact .inr ⟨y,hy,hroth,p1,p2⟩
   have hj:=hm1.join (by omega) (by rw[List.length_cons] at hroom;omega) (by rw[List.length_cons] at htot;omega) hk hB;rw[←hbs] at hj
   have e1:Store.mk key d (ins key value (d+1) (if Ao key d=0 then tl else tr)) (if Ao key d=0 then tr else tl)=ins key value d (.node tl tr):=by
    conv=>rhs;unfold ins
    unfold Store.mk;split<;>rfl
   rw[e1] at hj;exact hj
theorem Kl (hs:Sound σ []) {h:Int} (hh:1≤held σ h) (k:Int):held (Aw σ h).2.2 k=0∨held (Aw σ h).2.2 k=if k=h then held σ h-1 else held σ k:=by
 obtain⟨x,hx,hx1⟩:=Bd hh;have hc:has σ h=true∧(nd σ h).held≠0:=⟨CF hx,by rw[Ap hx];omega⟩
 have hde:Aw σ h=((((sweep (bump σ h (-1)) [h] 0).1:Nat):Int),(0:Int),(sweep (bump σ h (-1)) [h] 0).2):=by unfold Aw;rw[if_pos hc]
 have hs1:Sound (bump σ h (-1)) [h]:=hs.bump hx (by omega) (by omega) (by simp) (fun k hk=>by simp[Ne.symm hk]);obtain⟨q1,q2,q3,q4⟩:=Ej _ _ 0 hs1
 have hcm:x.1.held≤1073741824:=by
  obtain⟨j,hj,hj1,_,_⟩:=AG.Ac hx;have q1:=hs.wf.counts x (List.mem_of_getElem? hj1);have q2:=ER hs hx;omega
 rw[hde];simp only;cases hg:(sweep (bump σ h (-1)) [h] 0).2.get? k with
 | none=>exact .inl (Io hg)
 | some y =>
  right;obtain⟨c,hy⟩:=q4 k y hg;have e1:held (sweep (bump σ h (-1)) [h] 0).2 k=held (bump σ h (-1)) k:=by rw[Br hg,Br hy]
  rw[e1,GZ hx,Br hx];split
  · rw[Jd (by omega) (by omega)];omega
  rfl
structure PutOk (σ0 σ:AG Nd) (root r:Int) (t:Tr) (n:Nat):Prop where
 good:Good σ
 rep:Rep (sk σ) r 0 t
 ne:r≠0
 mine:held σ r=1
 only:∀k,1≤held σ k→k=r∨(1≤held σ0 k∧(k=root→2≤held σ0 k))
 fresh:sk σ0 r=none
 others:∀k,k≠root→1≤held σ0 k→sk σ k=sk σ0 k∧held σ k=held σ0 k
 self:2≤held σ0 root→sk σ root=sk σ0 root∧held σ root=held σ0 root-1
 live:live σ≤live σ0+n
 total:total σ≤total σ0+2*n
 room:σ.room=σ0.room
 keeps:∀k d t,k≠root→1≤held σ0 k→Rep (sk σ0) k d t→Rep (sk σ) k d t
def Ci (σ:AG Nd) (key:List UInt8) (l:List Int) (e:Int):Nat:=El σ key l.length e+l.length
theorem KU (G:Good σ0) (hk:key.length=32) {root:Int} {l:List Int} {e:Int} (ho:On (sk σ0) key root 0 l e):Ci σ0 key l e≤258:=by
 have hl:=ho.len G.fit (by omega);unfold Ci El;split
 · rename_i hc
   obtain⟨x,hx⟩:∃x,sk σ0 e=some x:=by
    cases hx:sk σ0 e with
    | none=>have:=Jh hx;have:=hc.1;omega
    | some x=>exact⟨x,rfl⟩
   rw[Ho hx] at hc ⊢;have xl:x.key.length=32:=(G.fit.all _ _ hx).key;have:=(CA key x.key (by omega) (Ne.symm hc.2)).1;omega
 omega
theorem PutMid.made (G:Good σ0) (hk:key.length=32) (value:List UInt8) (v:Value) (hv:value.length≤1024) {root:Int} (ht:Rep (sk σ0) root 0 t) {l:List Int} {e:Int} (ho:On (sk σ0) key root 0 l e)
 (hroom:Store.live σ0+Ci σ0 key l e≤σ0.room) (htot:Store.total σ0+600<1073741824) :
 PutMid σ0 (E9 σ0 key value v l e).2 key (E9 σ0 key value v l e).1 0 (ins key value 0 t) (Ci σ0 key l e):=by
 have hz:=G.fit.zero;have hc:=KU G hk ho;have hl:=ho.len G.fit (by omega);have hpre:∀x,sk σ0 root=some x→Pre x.key key 0:=fun _ _ _ h=>absurd h (Nat.not_lt_zero _)
 have hpe:=ho.pre G.fit hpre;obtain⟨te,hte⟩:=ho.Ud hz ht;rw[Nat.zero_add] at hte hpe;unfold Ci at hroom hc ⊢;have hm:=PutMid.ended G hk value v hv (d:=l.length) (by omega) hte ho.end_ hpe (by omega) (by omega);exact PutMid.up G hk value ho ht (by rw[Nat.zero_add];exact hte) hpre (by rw[Nat.zero_add];exact hm) (by omega) (by omega)
theorem PutMid.dropped (G:Good σ0) (h:PutMid σ0 σ key now 0 t n) {root:Int} (hh:root=0∨1≤held σ0 root) :
 PutOk σ0 (if root≠0 then (Aw σ root).2.2 else σ) root now t n:=by
 have hz:=G.fit.zero
 have there:∀k,1≤held σ0 k→∃x,sk σ0 k=some x:=fun k hk=>by
  obtain⟨x,hx,_⟩:=Bd hk;exact⟨_,Bl hx⟩
 have hk0:∀k,1≤held σ0 k→sk σ k=sk σ0 k∧held σ k=held σ0 k:=fun k hk=>by
  obtain⟨x,hx⟩:=there k hk;obtain⟨p,q⟩:=h.old k x hx;exact⟨p.trans hx.symm,q⟩
 by_cases h0:root=0
 · rw[if_neg (by simpa using h0)]
   refine⟨h.good,h.rep,h.ne,h.one,fun k hk=>(h.only k hk).imp id (fun h1=>⟨h1,fun e=>?_⟩),h.fresh,fun k _ hk=>hk0 k hk,fun hs=>?_,Nat.le_of_eq h.live,h.total,h.room,fun k d t _ _ hr=>hr.grow (fun k x hx=>(h.old k x hx).1)⟩
   · obtain⟨x,hx⟩:=there k h1
     rw[e,h0,hz] at hx;cases hx
   exfalso;obtain⟨x,hx⟩:=there root (by omega);rw[h0,hz] at hx;cases hx
 rw[if_pos h0];have hr:=hh.resolve_left h0;obtain⟨p,q⟩:=hk0 root hr
 have hnr:now≠root:=fun e=>by
  obtain⟨x,hx⟩:=there root hr;rw[←e,h.fresh] at hx;cases hx
 obtain⟨g0,g1,g2,g3,g4,g5,g6,g7⟩:=Ea h.good.sound (h:=root) (by omega);obtain⟨n1,n2⟩:=g3 now hnr (by rw[h.one];omega);have hdh:=Kl h.good.sound (h:=root) (by omega);refine⟨h.good.drop root,?_,h.ne,by rw[n2,h.one],fun k hk=>?_,h.fresh,fun k hk hk1=>?_,fun hs=>?_,?_,?_,by rw[g7,h.room],fun k d t hk hk1 hrk=>?_⟩
 · refine h.rep.shrink g2 g1.closed (.inr ?_) h.good.fit.zero
   obtain⟨y,hy,_⟩:=h.there;exact⟨y,by rw[n1,hy]⟩
 · rcases hdh k with e|e
   · omega
   rw[e] at hk;by_cases hkr:k=root
   · rw[if_pos hkr,q] at hk
     exact .inr ⟨by rw[hkr];omega,fun _=>by rw[hkr];omega⟩
   rw[if_neg hkr] at hk;exact(h.only k hk).imp id (fun h1=>⟨h1,fun e=>absurd e hkr⟩)
 · obtain⟨a,b⟩:=hk0 k hk1
   obtain⟨a',b'⟩:=g3 k hk (by rw[b];exact hk1);exact⟨a'.trans a,b'.trans b⟩
 · obtain⟨a',b'⟩:=g4 (by rw[q];exact hs)
   exact⟨a'.trans p,by rw[b',q]⟩
 · have:=h.live;omega
 · have:=h.total;omega
 have hk2:=(hk0 k hk1).2;obtain⟨a',_⟩:=g3 k hk (by rw[hk2];exact hk1);obtain⟨x,hx⟩:=there k hk1;refine(hrk.grow (fun k x hx=>(h.old k x hx).1)).shrink g2 g1.closed (.inr ⟨x,?_⟩) h.good.fit.zero;rw[a',(h.old k x hx).1]
theorem Rb (G:Good σ0) (hk:key.length=32) (value:List UInt8) (v:Value) (hv:value.length≤1024) {root:Int} (ht:Rep (sk σ0) root 0 t) (hh:root=0∨1≤held σ0 root) {l:List Int} {e:Int} (ho:On (sk σ0) key root 0 l e)
 (hroom:Store.live σ0+Ci σ0 key l e≤σ0.room) (htot:Store.total σ0+600<1073741824) :
 PutOk σ0 (Fv σ0 root key value v l e).2 root (Fv σ0 root key value v l e).1 (ins key value 0 t) (Ci σ0 key l e) :=
 (PutMid.made G hk value v hv ht ho hroom htot).dropped G hh
theorem On.Tx {f:View} (hz:f 0=none) {h:Int} {l:List Int} {e:Int} (ho:On f key h d l e):∀ {t:Tr},Rep f h d t→∀ {x:Nd},f e=some x→x.kind=1→x.key=key→ins key x.value d t=t:=by
 induction ho with
 | stop _ =>
  intro t ht x hx h1 hk;cases ht with
  | nil=>rw[hz] at hx;cases hx
  | leaf hn _=>rw[hx] at hn;cases hn;unfold ins;rw[if_pos hk,hk]
  | node hn h2 _ _ _=>rw[hx] at hn;cases hn;omega
 | step hn h2 hd hr ih =>
  intro t ht x hx h1 hk;cases ht with
  | nil=>rw[hz] at hn;cases hn
  | leaf hn' hk'=>rw[hn] at hn';cases hn';omega
  | node hn' _ _ hl hr' =>
   rw[hn] at hn';cases hn';unfold ins;split
   · rename_i hb
     rw[if_pos hb] at ih hr;rw[ih hl hx h1 hk]
   rename_i hb;rw[if_neg hb] at ih hr;rw[ih hr' hx h1 hk]
end
abbrev Av:=List (List UInt8×List UInt8)
def FN (b d:Nat) (L:Av):Av:=L.filter (fun p=>Ao p.1 d == b)
def tree:Nat→Av→Tr
 | _,[]=>.nil
 | _,[p]=>.leaf p.1 p.2
 | 0,_::_::_=>.nil
 | m+1,p::q::R=>.node (tree m (FN 0 (255-m) (p::q::R))) (tree m (FN 1 (255-m) (p::q::R)))
def Du (L:Av) (k:List UInt8):Av:=L.filter (fun p => !(p.1 == k))
def upd (L:Av) (k v:List UInt8):Av:=(k,v)::Du L k
def DT (L:Av):List (List UInt8):=L.map (·.1)
theorem M7 (m:Nat):tree m []=.nil:=by cases m<;>rfl
theorem GK (m:Nat) (p:List UInt8×List UInt8):tree m [p]=.leaf p.1 p.2:=by cases m<;>rfl
theorem Ks {m:Nat} {L:Av} (h:2≤L.length):tree (m+1) L=.node (tree m (FN 0 (255-m) L)) (tree m (FN 1 (255-m) L)):=by
 match L,h with
 | p::q::R,_=>rfl
theorem MF {a b:List UInt8} (ha:a.length=32) (hb:b.length=32) (h:Pre a b 256):a=b:=by
 by_cases e:a=b
 · exact e
 obtain⟨h1,h2,h3⟩:=CA a b (by omega) e;exact absurd (h _ (by omega)) h3
structure Av.Ok (L:Av) (k:List UInt8) (d:Nat):Prop where
 nodup:(DT L).Nodup
 len:∀p∈L,p.1.length=32
 pre:∀p∈L,Pre p.1 k d
variable {L : Av} {k v : List UInt8} {d m : Nat}
theorem keys_filter (L:Av) (f:List UInt8×List UInt8→Bool):(DT (L.filter f)).Sublist (DT L):=(List.filter_sublist).map _
theorem Av.Ok.filter (h:L.Ok k d) (f:List UInt8×List UInt8→Bool):Av.Ok (L.filter f) k d:=⟨h.nodup.sublist (keys_filter L f),fun p hp=>h.len p ((List.mem_filter.1 hp).1),fun p hp=>h.pre p ((List.mem_filter.1 hp).1)⟩
theorem Av.Ok.side (h:L.Ok k d):Av.Ok (FN (Ao k d) d L) k (d+1):=by
 refine⟨(h.filter _).nodup,(h.filter _).len,fun p hp=>(h.pre p ((List.mem_filter.1 hp).1)).next ?_⟩;have:=(List.mem_filter.1 hp).2;simpa using this
theorem Av.Ok.few (h:L.Ok k 256):L.length≤1:=by
 match L,h with
 | [],_=>simp
 | [p],_=>simp
 | p::q::R,h =>
  exfalso;have e:=MF (h.len p (by simp)) (h.len q (by simp)) ((h.pre p (by simp)).trans (h.pre q (by simp)).symm);have:=h.nodup;simp[DT,e] at this
theorem J8 (k:List UInt8):∀(n lo:Nat) (t:Tr),Ey k lo (n+1) t=mk k lo (Ey k (lo+1) n t) .nil
 | 0,lo,t=>rfl
 | n+1,lo,t=>by
  show Ey k lo (n+1) (mk k (lo+(n+1)) t .nil)=_
  rw[J8 k n lo]
  show _=mk k lo (Ey k (lo+1) n (mk k (lo+1+n) t .nil)) .nil
  rw[show lo+(n+1)=lo+1+n by omega]
theorem P4:∀(m:Nat),m≤256→∀ {k k':List UInt8} (v v':List UInt8),k≠k'→k.length=32→k'.length=32→Pre k k' (256-m) →
 tree m [(k,v),(k',v')]=Ey k (256-m) (common k k'-(256-m)) (mk k (common k k') (.leaf k v) (.leaf k' v')):=by
 intro m
 induction m with
 | zero =>
  intro _ k k' v v' hne hk hk' hp;exact absurd (MF hk hk' hp) hne
 | succ m ih =>
  intro hm k k' v v' hne hk hk' hp;obtain⟨c1,c2,c3⟩:=CA k k' (by omega) hne;have hd:=Cz hk hk' (by omega) hp;rw[Ks (by simp)];rw[show 256-(m+1)=255-m by omega] at hp hd ⊢;obtain⟨dd,hdd⟩:∃dd,dd=255-m:=⟨_,rfl⟩
  have hdm:256-m=dd+1:=by omega
  rw[hdm] at ih;rw[←hdd] at hp hd ⊢;by_cases hb:Ao k dd=Ao k' dd
  · have hp':=hp.next hb
    have hd':=Cz hk hk' (by omega) hp';have:=ih (by omega) v v' hne hk hk' hp';obtain⟨j,hj⟩:∃j,common k k'-dd=j+1:=⟨common k k'-(dd+1),by omega⟩
    rw[hj,J8];rw[show common k k'-(dd+1)=j by omega] at this;rw[←this];unfold mk FN;rcases BX k dd with h0|h0
    · rw[if_pos h0]
      simp[←hb,h0,M7]
    rw[if_neg (by omega)];simp[←hb,h0,M7]
  have hc:common k k'=dd:=by
   rcases Nat.lt_or_ge dd (common k k') with h|h
   · exact absurd (c2 dd h) hb
   omega
  rw[hc,Nat.sub_self];unfold Ey mk FN;rcases BX k dd with h0|h0<;>rcases BX k' dd with h1|h1
  · exact absurd (h0.trans h1.symm) hb
  · simp[h0,h1,GK]
  · simp[h0,h1,GK]
  exact absurd (h0.trans h1.symm) hb
theorem L7 (h:k∉DT L):Du L k=L:=by
 unfold Du;rw[List.filter_eq_self];intro p hp;have:p.1≠k:=fun e=>h (by rw[←e];exact List.mem_map_of_mem hp)
 simpa using this
theorem J6 (h:(DT L).Nodup):L.length≤(Du L k).length+1:=by
 induction L with
 | nil=>simp
 | cons p L ih =>
  have h2:(DT L).Nodup:=(List.nodup_cons.1 h).2;unfold Du at ih ⊢;rw[List.filter_cons];by_cases e:p.1=k
  · have hn:k∉DT L:=by rw[←e];exact(List.nodup_cons.1 h).1
    have:=L7 hn;unfold Du at this;simp[e,this]
  simp only[show(!(p.1 == k))=true by simpa using e,if_true,List.length_cons];have:=ih h2;omega
theorem NX (L:Av) (f g:List UInt8×List UInt8→Bool):(L.filter f).filter g=(L.filter g).filter f:=by
 rw[List.filter_filter,List.filter_filter];exact List.filter_congr fun p _=>Bool.and_comm _ _
theorem LZ (L:Av) (k v:List UInt8) (d:Nat):FN (Ao k d) d (upd L k v)=upd (FN (Ao k d) d L) k v:=by
 unfold upd FN Du;rw[List.filter_cons,if_pos (by simp),NX]
theorem Jp (L:Av) (k v:List UInt8) {d b:Nat} (hb:Ao k d≠b):FN b d (upd L k v)=FN b d L:=by
 unfold upd FN Du;rw[List.filter_cons,if_neg (by simpa using hb),List.filter_filter];refine List.filter_congr fun p _=>?_
 by_cases e:p.1=k
 · simp[e,hb]
 simp[e]
theorem Tg:∀(m:Nat),m≤256→∀ {L:Av},L.Ok k (256-m)→k.length=32→ins k v (256-m) (tree m L)=tree m (upd L k v):=by
 intro m
 induction m with
 | zero =>
  intro _ L h hk
  match L,h,h.few with
  | [],_,_=>rfl
  | [p],h,_ =>
   have e:=MF (h.len p (by simp)) hk (h.pre p (by simp))
   show ins k v _ (.leaf p.1 p.2)=_
   unfold ins upd Du;simp[e,GK]
 | succ m ih =>
  intro hm L h hk;by_cases h2:2≤L.length
  · have hu:2≤(upd L k v).length:=by
     have:=J6 (k:=k) h.nodup;unfold upd;rw[List.length_cons];omega
    rw[Ks h2,Ks hu];rw[show 256-(m+1)=255-m by omega] at h ⊢;have hdm:256-m=255-m+1:=by omega
    rw[hdm] at ih;have hs:=ih (by omega) h.side hk;unfold ins;rcases BX k (255-m) with hb|hb
    · rw[if_pos hb]
      rw[hb] at hs;have e:=LZ L k v (255-m);rw[hb] at e;rw[hs, ←e,Jp L k v (b:=1) (by omega)]
    rw[if_neg (by omega)];rw[hb] at hs;have e:=LZ L k v (255-m);rw[hb] at e;rw[hs, ←e,Jp L k v (b:=0) (by omega)]
  match L,h,h2 with
  | [],_,_=>rfl
  | [p],h,_ =>
   rw[GK];unfold ins upd Du;by_cases e:p.1=k
   · rw[if_pos e]
     simp[e,GK]
   rw[if_neg e];have:=P4 (m+1) hm v p.2 (Ne.symm e) hk (h.len p (by simp)) (h.pre p (by simp)).symm;rw[←this];simp[e]
  | p::q::R,_,h2=>exact absurd (by simp) h2
theorem Av.Ok.any (h:(DT L).Nodup) (hl:∀p∈L,p.1.length=32) (k:List UInt8):L.Ok k 0:=⟨h,hl,fun _ _ _ h=>absurd h (Nat.not_lt_zero _)⟩
def Tr.nodes:Tr→Nat
 | .nil=>0
 | .leaf _ _=>1
 | .node l r=>l.nodes+r.nodes+1
def Tr.leaves:Tr→Nat
 | .nil=>0
 | .leaf _ _=>1
 | .node l r=>l.leaves+r.leaves
def reach (f:View):Nat→Int→List Int
 | 0,_ => []
 | m+1,h=>match f h with
  | none => []
  | some n=>h::(if n.kind=2 then reach f m n.left++reach f m n.right else [])
variable {f : View} {h : Int} {d m : Nat} {t : Tr}
theorem Rep.size (hf:Fit f) (hr:Rep f h d t):(ndF f h).size=wrap64 (t.leaves:Nat):=by
 induction hr with
 | nil=>unfold ndF;rw[hf.zero];show(0:Int)=wrap64 ((0:Nat):Int);unfold wrap64;omega
 | leaf hn hk =>
  rw[Bn hn,(hf.leaf hn (by omega)).2.size]
  show(1:Int)=wrap64 ((1:Nat):Int)
  unfold wrap64;omega
 | @node h d n l r hn hk _ _ _ ihl ihr =>
  rw[Bn hn,(hf.inner hn hk).size,ihl,ihr];have e:((Tr.node l r).leaves:Int)=(l.leaves:Int)+(r.leaves:Int):=Int.natCast_add _ _;rw[e];generalize (l.leaves:Int)=a;generalize (r.leaves:Int)=b;unfold wrap64;omega
end Go.Proofs.YtngbdbpofifimaaGreat.Store
