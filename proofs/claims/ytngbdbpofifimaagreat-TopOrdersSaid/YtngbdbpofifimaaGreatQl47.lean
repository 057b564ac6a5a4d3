/- Laws of the layers below. -/
import Derived.Test.YtngbdbpofifimaaGreatQl46
set_option maxHeartbeats 3200000
set_option maxRecDepth 100000
set_option linter.unusedVariables false
namespace Go.Proofs.YtngbdbpofifimaaGreat.Law15
open Go.RowKit Go.Sort Go.Proofs.YtngbdbpofifimaaGreat.ShaW Go.Proofs.YtngbdbpofifimaaGreat.Path Go.Proofs.YtngbdbpofifimaaGreat.Store Go.Proofs.YtngbdbpofifimaaGreat.Law9 Go.Proofs.YtngbdbpofifimaaGreat.Law14
section
variable {w w' : World} {s : Nat} {F : Nat→Prop} {σ : AD Nd} {root : Int} {L : AS} {key : List UInt8}
theorem X8 {k:Int} {x:Nd} (hx:sk σ k=some x):(nd σ k).hash=x.hash:=by have:=congrArg Nd.hash (Gh hx);exact this
theorem Uk {k:Int} {x:Nd} (hx:sk σ k=some x):(nd σ k).depth=x.depth:=by have:=congrArg Nd.depth (Gh hx);exact this
theorem Sc {σ:AD Nd} (hf:Fit (sk σ)) {e:Int} {d:Nat} {t:Tr} (hr:Rep (sk σ) e d t) (ht:t.isNode=false):L6 σ e=FQ t:=by
 cases hr with
 | nil =>
  have hk:(nd σ 0).kind=0:=rfl;unfold L6;rw[if_neg (by omega),if_neg (by omega),ON];rfl
 | leaf hn hk =>
  have h1:=Ci hn;unfold L6;rw[if_pos (by omega),C6 hn,X8 hn,(hf.leaf hn (by omega)).2.hash];rfl
 | node=>cases ht
def BN (v:Value) (N:Array Value):Array Value:=#[v]++N
def LM:Array Value:=BN (.slice none 0 0) CP
theorem Ev:(Tryz.prog.info? 94).bind (·.zero)=some (.agg LM)∧(Tryz.prog.info? 94).map (·.size)=some 130∧Tryz.prog.built 94 []=some LM:=⟨by kernel_rfl,by kernel_rfl,by kernel_rfl⟩
theorem FJ {v:Value} {N:Array Value} (hv:v.oneCell'=true) (hN:∀u∈N.toList,u.oneCell'=true):∀u∈(BN v N).toList,u.oneCell'=true:=fun u hu=>by
 unfold BN at hu;rw[Array.toList_append] at hu;rcases List.mem_append.1 hu with h|h
 · obtain rfl:u=v:=by simpa using h
   exact hv
 exact hN u h
theorem BM {v:Value} {N:Array Value} (h:N.size=129):(BN v N).size=130:=by unfold BN;rw[Array.size_append,h];rfl
theorem SQ:∃i z,Tryz.prog.info? 35=some i∧i.zero=some z∧i.size=32∧i.bytes=32∧z.cells.size=32:=by
 obtain⟨i,h1,h2⟩:=Option.map_eq_some_iff.1 (by kernel_rfl:(Tryz.prog.info? 35).map (fun i=>(i.size,i.bytes,i.zero.map (fun z=>z.cells.size)))=some (32,32,some 32));simp only[Prod.mk.injEq,Option.map_eq_some_iff] at h2;obtain⟨h2,h3,z,h4,h5⟩:=h2;exact⟨i,z,h1,h4,h2,h3,h5⟩
theorem Qj (v u:Value) (N:Array Value):(BN v N).setIfInBounds 0 u=BN u N:=by
 apply Array.ext';simp[BN]
theorem Mi (v:Value) {N N':Array Value} (h:N.size=129) (h':N'.size=129):(splice (BN v N).toList 1 N'.toList).toArray=BN v N':=by
 apply Array.ext';have h1:N.toList.length=129:=by rw[Array.length_toList,h]
 have h2:N'.toList.length=129:=by rw[Array.length_toList,h']
 have e1:(BN v N).toList=v::N.toList:=by simp[BN]
 have e2:(BN v N').toList=v::N'.toList:=by simp[BN]
 show splice (BN v N).toList 1 N'.toList=(BN v N').toList
 rw[e1,e2];unfold splice;rw[h2,List.take_succ_cons,List.take_zero,List.drop_eq_nil_of_le (by rw[List.length_cons,h1];omega)];simp
theorem G5 (v:Value) (N:Array Value):(BN v N)[0]?=some v:=by
 rw[←Array.getElem?_toList];simp[BN]
def Kr (w:World) (b:Nat) (v:Value) (l:List (List UInt8)):Prop:=Ck 35 32 AK w b v l
def N0 (w:World) (t:Tr) (key:List UInt8) (e:Ending) (w':World):Prop:=∃v,e=.returned (.tuple #[.agg (BN v (FQ (t.stop key 0))),.int .i64 0])∧Kr w' w.heap.size v (t.sides key 0)∧Adds w w'
theorem Ze (h:At w s F σ) (D:Db σ root L) (hk:key.length=32) :
 Calls Tryz.prog 95 #[.pointer (some ⟨s,0,none⟩),.int .i64 root,.agg (AK key)] w (N0 w (tree 256 L) key):=by
 obtain⟨l,e1,ho⟩:=On.ex (k:=key) D.rep;obtain⟨hsl,hsd,hst⟩:=ho.sides D.good.fit D.rep;have hlen:=ho.len D.good.fit (Nat.zero_le _);rw[Nat.zero_add] at hlen;have hha:=fun w1 (a:Adds w w1)=>Fl (h.adds a) D.good root key hk (CI D.hand) ho
 have hoth:=fun w1 (a:Adds w w1) n=>Py (h.adds a) n key hk
 have hdg:=fun w1 (a:Adds w w1) n=>E7 (h.adds a) n
 have hnd:=fun w1 (a:Adds w w1)=>Xp (h.adds a) D.good e1
 have hne:=EX key (tree 256 L) 0;rw[Sc D.good.fit hst hne] at hnd;have hents:∀e∈((tree 256 L).stop key 0).ents,e.1.length=32:=fun e he=>((D.rep.ents D.good.fit).1 e (GQ key _ 0 e he)).1
 obtain⟨hNs,hN1⟩:=FN hne hents;obtain⟨N,hN⟩:∃N,N=FQ ((tree 256 L).stop key 0):=⟨_,rfl⟩
 obtain⟨sd,hsde⟩:∃sd,sd=(tree 256 L).sides key 0:=⟨_,rfl⟩
 have hside:∀i x,l[i]?=some x→∃y:Int,(∀w1,Adds w w1→∃z:Int,Calls Tryz.prog 180 #[.pointer (some ⟨s,0,none⟩),.int .i64 x,.agg (AK key)] w1 fun e w'=>e=.returned (.tuple #[.int .i64 z,.int .i64 y])∧Adds w1 w')∧sd[i]?=some (Ar σ y):=fun i x hx=>by
  obtain⟨n,q1,q2,q3,q4⟩:=hsd i x hx;have hi:=(List.getElem?_eq_some_iff.1 hx).1
  have hdp:depth σ x=((i:Nat):Int):=by
   unfold depth;rw[if_pos (OK q1).1,Uk q1,q3,Nat.zero_add]
  have hy:(if AU key i=0 then (nd σ x).right else (nd σ x).left)=(if bit key (depth σ x)=0 then (nd σ x).right else (nd σ x).left):=by
   have hb:(bit key (depth σ x)=0)↔(AU key i=0):=by rw[hdp,DQ (by omega)];omega
   by_cases hq:AU key i=0
   · rw[if_pos hq,if_pos (hb.2 hq)]
   rw[if_neg hq,if_neg (fun e=>hq (hb.1 e))]
  refine⟨if AU key i=0 then (nd σ x).right else (nd σ x).left,fun w1 a=>⟨if bit key (depth σ x)=0 then (nd σ x).left else (nd σ x).right,?_⟩,?_⟩
  · rw[hy]
    exact hoth w1 a x
  rw[hsde,q4,Nat.zero_add,JW q1,IF q1,Ff]
 have hdl:∀y,(Ar σ y).length=32:=fun y=>h.AT y
 obtain⟨K,hK⟩:∃K,K=AK key:=⟨_,rfl⟩
 have hKs:K.size=32:=by rw[hK,AN,hk]
 obtain⟨Z,hZ⟩:∃Z,Z=LM:=⟨_,rfl⟩
 have hzf:=Ev;have hZs:Z.size=130:=by rw[hZ];exact BM rfl
 have hZ1:∀v∈Z.toList,v.oneCell'=true:=by rw[hZ];exact FJ rfl Na
 rw[←hZ] at hzf;rw[←hN] at hnd hNs hN1;rw[←hsde] at hsl;rw[←hK] at hha hside ⊢;obtain⟨i0,z0,p1,p2,p3,p4,p5⟩:=SQ;have HI:=(hIq p1 (aIq p2 (aIq p3 (aIq p4 p5))))
 have HW:=(hIq hha (aIq hside (aIq hdg hnd)))
 have HN:=(hIq hNs (aIq hN1 (aIq hN hsde)))
 have HZ:=(hIq hzf (aIq hZs (aIq hZ1 hZ)))
 have HL:=(hIq hsl (aIq hlen hdl))
 have HK:=Lib.hid hKs;clear hha hside hdg hnd hNs hN1 hN hsde hzf hZs hZ1 hZ hsl hlen hdl hKs hK hne hents hst hsd hoth ho p1 p2 p3 p4 p5 hk D h;go_enter Tryz.func95,Tryz.ntmps95
 go_upto_region 1 with(first
  | fail
  | ((with_reducible show zOq (.alloc 94));refine AI rfl 94 rfl (.agg Z) HZ.out.1.1 ?_;dsimp only[Value.cells];try simp only[World.size_alloc]))
 refine BJ (fun w1 hw1=>?_);have a1:Adds w w1:=by rw[hw1];exact((Ch.refl _ _).alloc _).alloc _
 have r0:w1.heap[w.heap.size]?=some (.cells K 47 (0,0)):=by rw[hw1];exact AM (heap_alloc_new _ _) _
 have r1:w1.heap[w.heap.size+1]?=some (.cells Z 94 (0,0)):=by
  rw[hw1];have:=heap_alloc_new (w.alloc (.cells K 47)) (.cells Z 94);simpa using this
 have A1:=(hIq a1 (aIq r0 r1))
 clear a1 r0 r1 hw1
 go_wp2_with (first
  | fail
  | ((with_reducible show zOq (.load 47 _));refine AG rfl 47 _ rfl w.heap.size 0 rfl A1.out.2.1 Tryz.underlying47 rfl AY (by rw[HK.out];omega) K (by simp[←HK.out]) ?_))
 refine(HW.out.1 _ A1.out.1).mono ?_;rintro e w2 ⟨v2,rfl,hq,a2⟩;obtain⟨qo,qc,rfl⟩:=Aj hq;have hI:Fy w2 qo l:=(Fy.own (l:=l) hq).1;have hB1:w.heap.size+1<w1.heap.size:=Ac A1.out.2.2;have hsz2:=a2.size;have hlow:∀g off,qo=some ⟨g,off,none⟩→w1.heap.size≤g:=fun g off e=>(hq.lt g (by rw[e];rfl)).1
 obtain⟨n,hn⟩:∃n,n=l.length:=⟨_,rfl⟩
 have hn256:n≤256:=by rw[hn];exact HL.out.2.1
 obtain⟨B1,hb1⟩:∃B1,B1=w.heap.size+1:=⟨_,rfl⟩
 rw[←hn, ←hb1];have H2:=(hIq (A1.out.1.trans a2 (fun _=>fEq)) (aIq (a2.row A1.out.2.1 id) (aIq hI (aIq hlow (aIq (by omega:w.heap.size<B1∧B1<w2.heap.size∧B1<w1.heap.size) hn)))))
 have h2r:w2.heap[B1]?=some (.cells (BN (.slice none 0 0) CP) 94 (0,0)):=by
  have h1:=a2.row A1.out.2.2 id;rw[HZ.out.2.2.2] at h1;rw[hb1];exact h1
 have H2R:=Lib.hid h2r;clear hq a2 hI hlow hn hb1 h2r;go_wp2_with fail;go_loopg [11,12,13,28] n (fun g s11 s12 s13 s28 wr=>∃(k:Nat) (v:Value),s28=.int .i64 (k:Nat)∧k+g=n∧v.oneCell'=true∧wr.heap[B1]?=some (.cells (BN v CP) 94 (0,0))∧Kr wr w2.heap.size v (sd.take k)∧Ch (fun k=>k=B1) w2 wr)
 case atStart=>exact⟨0,.slice none 0 0,rfl,by omega,rfl,H2R.out,Ck.nil _ _,Ch.refl _ _⟩
 obtain⟨k,v,rfl,hk,hv1,hr,hrow,hch⟩:=hrel;have hA:Adds w wr:=H2.out.1.trans hch (fun k hk=>.inr (by rw[hk];have:=H2.out.2.2.2.2.1;omega));have HS:=(hIq hk (aIq hr (aIq hrow (aIq hch (aIq hA hv1)))))
 by_cases hkn:k<n
 · have h1:decide ((k:Int)<(n:Int))=true:=decide_eq_true (by omega)
   have h2:(k:Int)<(n:Int):=by omega
   have hwk:wrap64 ((k:Int)+1)=(k:Int)+1:=by unfold wrap64;omega
   obtain⟨x,hx⟩:∃x,l[k]?=some x:=⟨_,List.getElem?_eq_getElem (by have:=H2.out.2.2.2.2.2;omega)⟩
   obtain⟨g0,off,rfl,hc⟩:=H2.out.2.2.1 k x hx;have hg1:=H2.out.2.2.2.1 g0 off rfl;have hcw:=hch.cell hc (fun e=>by have h3:g0=B1:=e;have:=H2.out.2.2.2.2.1;omega);have hrk:=hch.row H2.out.2.1 (fun e=>by have h3:w.heap.size=B1:=e;have:=H2.out.2.2.2.2.1;omega);obtain⟨y,hy1,hy2⟩:=HW.out.2.1 k x hx;have hkl:(sd.take k).length=k:=by rw[List.length_take,HL.out.1, ←H2.out.2.2.2.2.2];omega
   have hsn:sd.take (k+1)=sd.take k ++ [Ar σ y]:=by rw[List.take_add_one,hy2];rfl
   obtain⟨zx,hzx⟩:=hy1 wr hA;have HX:=(hIq hrk (aIq hzx (aIq hsn hkl)))
   clear hk hr hrow hch hA hx hc hg1 hrk hy1 hy2 hsn hkl hzx hv1
   go_upto_region 8 with(first
    | fail
    | ((with_reducible show zOq (.load 47 _));refine AG rfl 47 _ rfl w.heap.size 0 rfl HX.out.1 Tryz.underlying47 rfl AY (by rw[HK.out];omega) K (by simp[←HK.out]) ?_))
   refine HX.out.2.1.mono ?_;rintro e w4 ⟨rfl,a4⟩;obtain⟨D,hD⟩:∃D,D=AK (Ar σ y):=⟨_,rfl⟩
   have hDs:D.size=32:=by rw[hD,AN,HL.out.2.2]
   have hdg:=fun w1 (a:Adds w4 w1)=>HW.out.2.2.1 w1 ((HS.out.2.2.2.2.1.trans a4 (fun _=>fEq)).trans a (fun _=>fEq)) y
   rw[←hD] at hdg;have H4:=(hIq (a4.row HS.out.2.1 id) (aIq (HS.out.2.2.1.adds a4) (aIq (HS.out.2.2.2.1.trans a4 (fun _=>fEq)) (aIq hdg (aIq hDs (aIq hD (show ∀v∈D.toList,v.oneCell'=true by rw[hD];exact Ae _)))))))
   clear a4 hdg hDs hD hcw;go_upto_region 8 with fail;refine AO (fun w0=>w0.heap[B1]?=some (.cells (BN v CP) 94 (0,0))) 8 [(0,false),(1,false),(2,false),(3,false),(4,true),(5,true),(6,true),(7,false)] (by kernel_rfl) (by kernel_rfl) ?_ ?_
   · exact AP H4.out.1
   iterate 1 refine plan_look rfl rfl (fun w0 hS=>(by go_simp;try rfl)) ?_
   simp only[Act.put,nAq,nBq,nCq];refine plan_look (v:=v) rfl rfl (fun w0 hS=>(by have c1:w0.cell? ⟨B1,0,none⟩=some v:=AH hS (G5 _ _);clear hS;go_simp;try rfl)) ?_;simp only[Act.put,nAq,nBq,nCq]
   iterate 2
    iterate 1 refine plan_look rfl rfl (fun w0 hS=>(by go_simp;try rfl)) ?_
    simp only[Act.put,nAq,nBq,nCq]
   refine AV rfl ?_;go_wp2_with fail;refine(H4.out.2.2.2.1 _ (Ch.refl _ _).drew).mono ?_;rintro e w5 ⟨rfl,a5⟩;have a5':Adds w4 w5:=(Ch.refl _ _).drew.trans a5 (fun _=>fEq);have H5:=(hIq (a5'.row H4.out.1 id) (aIq (H4.out.2.1.adds a5') (H4.out.2.2.1.trans a5' (fun _=>fEq))))
   clear a5 a5';dsimp only;go_step;refine wpList_nil ?_;change _∧_;refine⟨H5.out.1,?_⟩;refine AV rfl ?_
   go_wp2_with (first
    | fail
    | ((with_reducible show zOq (.buildSlice 89 _ _));refine As rfl 89 _ rfl 35 i0 z0 (.agg D) rfl Tryz.underlying89 HI.out.1 HI.out.2.1 (by rw[HI.out.2.2.1];decide) (by rw[HI.out.2.2.1];decide) (by rw[HI.out.2.2.1];exact H4.out.2.2.2.2.1) ?_))
   dsimp only[Value.cells];refine⟨AM H5.out.1 _,?_⟩
   have hown5:(w5.alloc (.cells D 35)).ownsRow w2.heap.size 35 32 v k (BC AK (sd.take k)):=by
    have h3:=(Ch.refl (fun _=>False) w5).alloc (.cells D 35);have h4:=Ck.adds H5.out.2.1 h3;unfold Ck at h4;rw[HX.out.2.2.2] at h4;exact h4
   have HO5:=Lib.hid hown5;clear hown5;refine AV rfl ?_
   go_wp2_with (first
    | fail
    | (at_builtin;refine Ak rfl _ _ 89 rfl 35 i0 z0 32 32 Tryz.underlying89 HI.out.1 HI.out.2.1 HI.out.2.2.1 HI.out.2.2.2.1 HI.out.2.2.2.2 (by decide) v k (BC AK (sd.take k)) rfl (HO5.out.base (fun _ _=>Nat.zero_le _)) ⟨w5.heap.size,0,none⟩ 1 1 D.toList rfl (by rw[Array.length_toList,H4.out.2.2.2.2.1]) (Cc (heap_alloc_new w5 (.cells D 35))) H4.out.2.2.2.2.2.2 (by unfold maxLen;omega) (by omega) ?_;intro v' w6 own' grow' loc'))
   have hbs:∀j,v.ownBlock=some j→w2.heap.size≤j:=fun j hj=>(HO5.out.lt j hj).1
   have r6:=((Ch.refl (fun j=>v.ownBlock=some j) _).grown grow' (fun k hk=>.inl hk)).row (AM H5.out.1 (.cells D 35)) (fun e=>by have h3:=hbs B1 e;have:=H2.out.2.2.2.2.1;omega);have ch6:Ch (fun k=>k=B1) w2 w6:=(H5.out.2.2.alloc _).grown grow' (fun k hk=>.inr (hbs k hk))
   have own6:Kr w6 w2.heap.size v' (sd.take (k+1)):=by
    have h3:=Gb (b:=w2.heap.size) own' hbs (H5.out.2.2.alloc _).size loc';unfold Kr Ck;rw[HX.out.2.2.1,List.length_append,HX.out.2.2.2,CZ];rw[show BC AK [Ar σ y]=D.toList by rw[H4.out.2.2.2.2.2.1];simp[BC]];exact h3
   obtain⟨vo,vc,rfl⟩:=Aj own';have H6:=(hIq r6 (aIq ch6 own6))
   have q6:=AH r6 (G5 _ _);have f6:=Al r6 0;have l6:=Ac r6;clear own' grow' loc' hbs r6 ch6 own6;refine⟨H6.out.1,?_⟩
   iterate 1 refine plan_look rfl rfl (fun w0 hS=>(by go_simp;try rfl)) ?_
   simp only[Act.put,nAq,nBq,nCq];refine AZ ?_;simp only[List.drop_succ_cons,List.drop_zero];go_wp2;refine NoPanic.normal ?_;obtain⟨w7,hw7⟩:∃w7,w7=w6.setCell ⟨B1,0,none⟩ (.slice vo (k+1) vc):=⟨_,rfl⟩
   rw[←hw7]
   have r7:w7.heap[B1]?=some (.cells (BN (.slice vo (k+1) vc) CP) 94 (0,0)):=by
    rw[hw7, ←Qj v (.slice vo (k+1) vc) CP];exact AQ H6.out.1 0 _
   have c67:Ch (fun k=>k=B1) w6 w7:=by rw[hw7];exact(Ch.refl (fun k=>k=B1) w6).setCell (p:=⟨B1,0,none⟩) (.inl rfl) _
   have own7:Kr w7 w2.heap.size (.slice vo (k+1) vc) (sd.take (k+1)):=c67.owns H6.out.2.2 (fun j hj e=>by have h3:=(World.ownsRow.lt H6.out.2.2 j hj).1;have h4:j=B1:=e;have:=H2.out.2.2.2.2.1;omega);have H7:=(hIq r7 (aIq own7 (H6.out.2.1.trans c67 (fun k hk=>.inl hk))))
   clear r7 c67 own7 hw7 q6 f6 l6;go_wp2;go_roundg (n-(k+1))
   case measure=>have:=HS.out.1;omega
   exact⟨k+1,.slice vo (k+1) vc,by first|(simp;done)|(simp[hwk];done),by omega,rfl,H7.out.1,H7.out.2.1,H7.out.2.2⟩
 obtain rfl:k=n:=by omega
 have h1:decide ((k:Int)<(k:Int))=false:=decide_eq_false (by omega);have h2:¬(k:Int)<(k:Int):=by omega
 have hta:sd.take k=sd:=List.take_of_length_le (by rw[HL.out.1];have:=H2.out.2.2.2.2.2;omega);have hnd:=HW.out.2.2.2 wr hA;have HE:=(hIq hta hnd)
 clear hk hr hrow hch hA hta hnd;go_wp2_with fail;refine HE.out.2.mono ?_;rintro e w4 ⟨rfl,a4⟩;have H4:=(hIq (a4.row HS.out.2.1 id) (aIq (HS.out.2.2.1.adds a4) (HS.out.2.2.2.2.1.trans a4 (fun _=>fEq))))
 clear a4;have hZ129:CP.size=129:=rfl
 go_wp2_with (first
  | fail
  | ((with_reducible show zOq (.store 92 _ _));refine AE rfl 92 _ _ rfl B1 1 N rfl rfl H4.out.1 (by rw[B6.2.1,HN.out.1]) (by rw[HN.out.1,BM hZ129];omega) HN.out.2.1 (BN v N) (Mi v hZ129 HN.out.1) ?_)
  | ((with_reducible show zOq (.load 94 _));refine AG rfl 94 _ rfl B1 0 rfl (AF H4.out.1 _) Tryz.underlying94 rfl HZ.out.1.2.1 (by rw[BM HN.out.1];omega) (BN v N) (by have:=BM (v:=v) HN.out.1;simp[←this]) ?_)
  | ((with_reducible show zOq (.store 94 _ _));refine AE rfl 94 _ _ rfl B1 0 (BN v N) rfl rfl (AF H4.out.1 _) (by rw[HZ.out.1.2.1,BM HN.out.1]) (by rw[BM HN.out.1];omega) (FJ HS.out.2.2.2.2.2 HN.out.2.1) (BN v N) (by rw[AJ _ _ rfl]) ?_))
 exact Ag (p:=6) (u:=7) rfl rfl (AF (AF H4.out.1 _) _) Tryz.underlying94 rfl (by rw[HZ.out.1.2.1,BM HN.out.1]) rfl
  ⟨v,by rw[←HN.out.2.2.1];rfl,by
   have h3:Kr w4 w.heap.size v sd:=by
    have h4:=H4.out.2.1;rw[HE.out.1] at h4;exact World.ownsRow.base h4 (fun j hj=>Nat.le_trans H2.out.1.size (h4.lt j hj).1)
   rw[←HN.out.2.2.2];exact((((Ch.refl (fun k=>k=B1) w4).setRow (.inl rfl) _).setRow (.inl rfl) _).owns h3 (fun j hj e=>by have h5:=(World.ownsRow.lt H4.out.2.1 j hj).1;have h6:j=B1:=e;have:=H2.out.2.2.2.2.1;omega)),((H4.out.2.2.setRow (.inr (by have:=H2.out.2.2.2.2.1;omega)) _).setRow (.inr (by have:=H2.out.2.2.2.2.1;omega)) _)⟩
end
def JO (w:World) (v:Value) (l:List (List UInt8)):Prop:=∃ao cap,v=.slice ao l.length cap∧EN 32 AK w ao l∧∀s∈l,s.length=32
theorem JO.adds {w w':World} {v:Value} {l:List (List UInt8)} (h:JO w v l) (a:Adds w w'):JO w' v l:=by
 obtain⟨ao,cap,e,h1,h2⟩:=h;exact⟨ao,cap,e,h1.Af a (fun _=>fEq),h2⟩
theorem Kr.at {w:World} {b:Nat} {v:Value} {l:List (List UInt8)} (h:Kr w b v l) (hl:∀s∈l,s.length=32):JO w v l:=by
 obtain⟨ao,cap,e,h1,_⟩:=Ck.row h (fun x hx=>by rw[AN];exact hl x hx) (by decide);exact⟨ao,cap,e,h1,hl⟩
theorem Cx (k:List UInt8):∀(t:Tr) (d:Nat),∀s∈t.sides k d,s.length=32
 | .nil,_,s,h=>by cases h
 | .leaf _ _,_,s,h=>by cases h
 | .node l r,d,s,h=>by
  unfold Tr.sides at h;split at h
  · rcases List.mem_cons.1 h with rfl|h
    · exact Tr.B9 _
    exact Cx k l (d+1) s h
  rcases List.mem_cons.1 h with rfl|h
  · exact Tr.B9 _
  exact Cx k r (d+1) s h
def cB (key:List UInt8) (l:List (List UInt8)) (h:List UInt8) (k:Nat):List UInt8:=upD key (l.drop k) k h
section
variable {w w' : World} {key : List UInt8} {v : Value} {l : List (List UInt8)} {t : Tr}
theorem Ko (v:Value) (N:Array Value) (h:N.size=129):(BN v N).extract 1 (1+129)=N:=by
 apply Array.ext';rw[Array.toList_extract,List.extract_eq_take_drop];simp only[BN,Array.toList_append]
 show((v::N.toList).drop 1).take 129=N.toList
 rw[List.drop_succ_cons,List.drop_zero,List.take_of_length_le (by rw[Array.length_toList,h];omega)]
theorem Po (v:Value) (N:Array Value) (x:Value) (h:N[0]?=some x):(BN v N)[1]?=some x:=by
 rw[←Array.getElem?_toList] at h ⊢;simp only[BN,Array.toList_append]
 show([v]++N.toList)[1]?=some x
 rw[List.getElem?_append_right (by simp)];exact h
theorem Lt (k:Nat) (a b c d:List UInt8):(CG k a b c d)[0]?=some (.int .u8 (k:Nat)):=rfl
theorem Qa {t:Tr} (ht:t.isNode=false):∃kd:Int,(FQ t)[0]?=some (.int .u8 kd)∧kd≠2∧(kd=1↔t≠.nil):=by
 cases t with
 | nil=>exact⟨((0:Nat):Int),Lt 0 _ _ _ _,by decide,Iff.intro (fun h=>absurd h (by decide)) (fun h=>absurd rfl h)⟩
 | leaf k v=>exact⟨((1:Nat):Int),Lt 1 _ _ _ _,by decide,Iff.intro (fun _=>Tr.noConfusion) (fun _=>rfl)⟩
 | node=>cases ht
end
section
variable {w0 w w' : World} {d v s room tn : Nat} {G : Nat→Prop} {σ : AD Nd} {root : Int} {L : AS} {M : Nmd} {x key : List UInt8}
theorem PR (h:Dct w0 w d v s G room σ root L M tn) (hx:x∈FY M) {kv:Value} (hk:Bytes w kv key) (h32:key.length=32) :
 Calls Tryz.prog 38 #[.pointer (some ⟨d,0,none⟩),.string (BP x),kv] w (N0 w (tree 256 (Cv L M x)) key):=by
 have hst:=fun w1 (a:Adds w w1)=>Tv (h.adds a)
 have hof:=fun w1 (a:Adds w w1)=>Kt (hk.Af a (fun _ _ h=>h)) h32
 have hhd:=fun w1 (a:Adds w w1)=>FF (h.adds a) (GY h hx)
 have hwy:∀w1,Adds w w1→Calls Tryz.prog 95 #[.pointer (some ⟨s,0,none⟩),.int .i64 (Fj root M x),.agg (AK key)] w1 (N0 w1 (tree 256 (Cv L M x)) key):=fun w1 a=>by
  obtain⟨F,hF⟩:=(h.adds a).at;exact Ze hF (h.name hx) h32
 obtain⟨K,hK⟩:∃K,K=AK key:=⟨_,rfl⟩
 have hKs:K.size=32:=by rw[hK,AN,h32]
 have hK1:∀v∈K.toList,v.oneCell'=true:=by rw[hK];exact Ae _
 rw[←hK] at hof hwy;obtain⟨S,hS⟩:∃S,S=BP x:=⟨_,rfl⟩
 rw[←hS] at hhd ⊢;obtain⟨Z,hZ⟩:∃Z,Z=AK (List.replicate 32 0):=⟨_,rfl⟩
 have hzd:=Ef;have hZs:Z.size=32:=by rw[hZ];rfl
 rw[←hZ] at hzd;obtain⟨Y,hY⟩:∃Y,Y=LM:=⟨_,rfl⟩
 have hyf:=Ev;have hYs:Y.size=130:=by rw[hY];exact BM rfl
 rw[←hY] at hyf;obtain⟨ao,cap,e0,_,_⟩:=hk.form;obtain⟨kl,hkl⟩:∃kl,kl=key.length:=⟨_,rfl⟩
 rw[←hkl] at e0;subst e0;have hents:∀e∈((tree 256 (Cv L M x)).stop key 0).ents,e.1.length=32:=fun e he=>(((h.name hx).rep.ents (h.name hx).good.fit).1 e (GQ key _ 0 e he)).1
 obtain⟨hNs,hN1⟩:=FN (EX key (tree 256 (Cv L M x)) 0) hents;have hnd:=h.nd;obtain⟨T,hT⟩:∃T,T=tree 256 (Cv L M x):=⟨_,rfl⟩
 rw[←hT] at hwy hNs hN1 ⊢;obtain⟨rt,hrt⟩:∃rt,rt=Fj root M x:=⟨_,rfl⟩
 rw[←hrt] at hwy;have HRT:=Lib.hid hrt;have HW:=(hIq hst (aIq hof (aIq hhd hwy)))
 have HK:=(hIq hKs hK1)
 have HZ:=(hIq hzd hZs)
 have HY:=(hIq hyf hYs)
 have HX:=(hIq hx hnd)
 have HNN:=(hIq hNs hN1)
 clear hst hof hhd hwy hK hKs hK1 hS hzd hZs hZ hyf hYs hY hkl h32 hk h hx hnd hents hNs hN1 hT hrt;go_enter Tryz.func38,Tryz.ntmps38;go_upto_region 1 with(first|fail|((with_reducible show zOq (.alloc 94));refine AI rfl 94 rfl (.agg Y) HY.out.1.1 ?_;dsimp only[Value.cells];try simp only[World.size_alloc]))
 refine BJ (fun w1 hw1=>?_);have a1:Adds w w1:=by rw[hw1];exact(Ch.refl _ _).alloc _
 have r1:w1.heap[w.heap.size]?=some (.cells Y 94 (0,0)):=by rw[hw1];exact heap_alloc_new _ _
 have H1:=(hIq a1 r1)
 clear a1 r1 hw1;go_wp2_with fail;refine(HW.out.1 _ H1.out.1).mono ?_;rintro e w2 ⟨rfl,rfl⟩;go_wp2_with fail;refine(HW.out.2.1 _ H1.out.1).mono ?_;rintro e w2 ⟨rfl,a2⟩;have H2:=(hIq (H1.out.1.trans a2 (fun _=>fEq)) (a2.row H1.out.2 id))
 clear a2
 go_upto_region 4 with(first
  | fail
  | ((with_reducible show zOq (.alloc 47));refine AI rfl 47 rfl (.agg Z) HZ.out.1 ?_;dsimp only[Value.cells];try simp only[World.size_alloc])
  | ((with_reducible show zOq (.store 47 _ _));refine AE rfl 47 _ _ rfl w2.heap.size 0 K rfl rfl (heap_alloc_new _ _) (by rw[AY,HK.out.1]) (by rw[HK.out.1,HZ.out.2];omega) HK.out.2 K (by rw[AJ _ _ (by rw[Array.length_toList,Array.length_toList,HK.out.1,HZ.out.2])]) ?_))
 refine BJ (fun w3 hw3=>?_);have a3:Adds w2 w3:=by rw[hw3];exact((Ch.refl _ _).alloc _).setRow (.inr (Nat.le_refl _)) _
 have r3:w3.heap[w2.heap.size]?=some (.cells K 47 (0,0)):=by rw[hw3];exact AF (heap_alloc_new w2 (.cells Z 47)) K
 have H3:=(hIq (H2.out.1.trans a3 (fun _=>fEq)) (aIq (a3.row H2.out.2 id) r3))
 clear a3 r3 hw3;go_wp2_with fail;refine(HW.out.2.2.1 _ H3.out.1).mono ?_;rintro e w4 ⟨hh,er,rfl,rfl,hd⟩;obtain⟨rfl,hhe⟩:=hd.Fj HX.out.2 HX.out.1;rw[←HRT.out] at hhe;clear hd;subst hhe;go_upto_region 9 with fail;refine AO (fun w0=>w0.heap[w2.heap.size]?=some (.cells K 47 (0,0))) 7 [(0,false),(2,false),(3,false),(1,true),(4,true),(5,false),(6,false)] (by kernel_rfl) (by kernel_rfl) ?_ ?_
 · exact AP H3.out.2.2
 iterate 2
  iterate 1 refine plan_look rfl rfl (fun w0 hS=>(by go_simp;try rfl)) ?_
  simp only[Act.put,nAq,nBq,nCq]
 refine Ah (cur:=K) (t:=47) (fr:=(0,0)) rfl rfl 47 _ rfl w2.heap.size 0 32 rfl (fun w0 hS=>hS) Tryz.underlying47 rfl AY (by rw[HK.out.1];exact Nat.le_refl _) K (by have:=HK.out.1;simp[←this]) ?_;simp only[Act.put,nAq,nBq,nCq];refine AV rfl ?_;go_wp2_with fail;refine(HW.out.1 _ H3.out.1.drew).mono ?_;rintro e w5 ⟨rfl,rfl⟩;dsimp only;go_step;refine wpList_nil ?_;change _∧_;refine⟨AP H3.out.2.2,?_⟩;refine AV rfl ?_;go_wp2_with fail;refine(HW.out.2.2.2 _ H3.out.1.drew).mono ?_;rintro e w5 ⟨v5,rfl,hrow,a5⟩;have a5':=(Ch.refl (fun _=>False) w3).drew.trans a5 (fun _=>fEq);obtain⟨N,hN⟩:∃N,N=FQ (T.stop key 0):=⟨_,rfl⟩
 rw[←hN] at HNN ⊢;have hv1:v5.oneCell'=true:=by obtain⟨_,_,e⟩:=Ck.form hrow;rw[e];rfl
 have H5:=(hIq (H3.out.1.trans a5' (fun _=>fEq)) (aIq (a5'.row H3.out.2.1 id) (aIq (a5'.row H3.out.2.2 id) (aIq (World.ownsRow.base hrow (fun j hj=>Nat.le_trans H3.out.1.size (hrow.lt j hj).1)) (aIq hN (aIq hv1 (show ∀j,v5.ownBlock=some j→j≠w.heap.size from fun j hj e=>by have h5:=(hrow.lt j hj).1;have h6:=Ac H3.out.2.1;have h7:w3.drew.heap.size=w3.heap.size:=rfl;omega)))))))
 clear a5 a5' hrow hN hv1;dsimp only;go_step;refine wpList_nil ?_;change _∧_;refine⟨H5.out.2.2.1,?_⟩
 iterate 2
  iterate 1 refine plan_look rfl rfl (fun w0 hS=>(by go_simp;try rfl)) ?_
  simp only[Act.put,nAq,nBq,nCq]
 refine AZ ?_;simp only[List.drop_succ_cons,List.drop_zero]
 go_wp2_with (first
  | fail
  | ((with_reducible show zOq (.store 94 _ _));refine AE rfl 94 _ _ rfl w.heap.size 0 (BN v5 N) rfl rfl H5.out.2.1 (by rw[HY.out.1.2.1,BM HNN.out.1]) (by rw[BM HNN.out.1,HY.out.2];omega) (FJ H5.out.2.2.2.2.2.1 HNN.out.2) (BN v5 N) (by rw[AJ _ _ (by rw[Array.length_toList,Array.length_toList,BM HNN.out.1,HY.out.2])]) ?_))
 refine NoPanic.normal ?_;go_wp2
 exact Ag (p:=6) (u:=7) rfl rfl (AF H5.out.2.1 _) Tryz.underlying94 rfl (by rw[HY.out.1.2.1,BM HNN.out.1]) rfl
  ⟨v5,by rw[←H5.out.2.2.2.2.1];rfl,((Ch.refl (fun j=>j=w.heap.size) w5).setRow (.inl rfl) _).owns H5.out.2.2.2.1 (fun j hj e=>H5.out.2.2.2.2.2.2 j hj e),H5.out.1.setRow (.inr (Nat.le_refl _)) _⟩
end
def bitU (k:Nat):UInt8:=UInt8.ofNat (128 / 2 ^ (k % 8))
def PI (b:List UInt8) (k:Nat):List UInt8:=b.set (k / 8) (b.getD (k / 8) 0 ||| bitU k)
def EE (S:List (List UInt8)):Nat→List UInt8
 | 0=>List.replicate ((S.length+7) / 8) 0
 | k+1=>if S.getD k []=Tag.CJ then EE S k else PI (EE S k) k
def Hi (S:List (List UInt8)):Nat→List UInt8
 | 0 => []
 | k+1=>if S.getD k []=Tag.CJ then Hi S k else Hi S k++S.getD k []
def NU (S:List (List UInt8)) (t:Tr):List UInt8 := [[UInt8.ofNat (S.length / 256),UInt8.ofNat (S.length % 256)],EE S S.length,Hi S S.length,Ip t].flatten
theorem EH (S:List (List UInt8)):∀k,(EE S k).length=(S.length+7) / 8
 | 0=>List.length_replicate
 | k+1=>by
  unfold EE;split
  · exact EH S k
  unfold PI;rw[List.length_set];exact EH S k
theorem Ex {S:List (List UInt8)} (h:∀s∈S,s.length=32):∀k,k≤S.length→(Hi S k).length≤32*k
 | 0,_=>Nat.zero_le _
 | k+1,hk=>by
  have ih:=Ex h k (by omega);have hx:S[k]?=some S[k]:=List.getElem?_eq_getElem (by omega);have h32:=h _ (List.mem_of_getElem? hx);have e:S.getD k []=S[k]:=by rw[List.getD_eq_getElem?_getD,hx];rfl
  unfold Hi;split
  · omega
  rw[List.length_append,e,h32];omega
theorem RA {S:List (List UInt8)} {k:Nat} {s:List UInt8} (h:S[k]?=some s):EE S (k+1)=if s=Tag.CJ then EE S k else PI (EE S k) k:=by
 have e:S.getD k []=s:=by rw[List.getD_eq_getElem?_getD,h];rfl
 show(if S.getD k []=Tag.CJ then _ else _)=_
 rw[e]
theorem Qf {S:List (List UInt8)} {k:Nat} {s:List UInt8} (h:S[k]?=some s):Hi S (k+1)=if s=Tag.CJ then Hi S k else Hi S k++s:=by
 have e:S.getD k []=s:=by rw[List.getD_eq_getElem?_getD,h];rfl
 show(if S.getD k []=Tag.CJ then _ else _)=_
 rw[e]
theorem YY (x y:UInt8):bits .or .u8 (x.toNat:Int) (y.toNat:Int)=((x ||| y).toNat:Int):=by
 rw[u8_or_nat _ _ x.toNat_lt y.toNat_lt,UInt8.toNat_or]
theorem JX {S:List (List UInt8)} {t:Tr} (h:∀s∈S,s.length=32) (hk:∀e∈t.ents,e.1.length=32) (hl:S.length≤256):2<(NU S t).length∧(NU S t).length≤10000:=by
 have h1:=EH S S.length;have h2:=Ex h S.length (Nat.le_refl _);have h3:=UI hk
 have h4:1≤(Ip t).length:=by
  cases t<;>simp[Ip]
 unfold NU;simp only[List.flatten_cons,List.flatten_nil,List.length_append,List.length_cons,List.length_nil,h1];omega
def OR (n:Nat):UInt8:=UInt8.ofNat (n / 256)
def Oq (n:Nat):UInt8:=UInt8.ofNat (n % 256)
theorem WH (n:Nat) (hn:n≤256) (w:World):Calls Tryz.prog 97 #[.int .i64 (n:Int)] w fun e w'=>e=.returned (.tuple #[.slice (some ⟨w.heap.size,0,none⟩) 2 2,.int .i64 0])∧w'=w.alloc (.cells (AK [OR n,Oq n]) 5):=by
 have h1:¬(n:Int)<0:=by omega
 have h2:decide ((65535:Int)<(n:Int))=false:=decide_eq_false (by omega)
 have b8:(n:Int) / (256:Int)=((OR n).toNat:Int):=by
  unfold OR;rw[UInt8.toNat_ofNat',Nat.mod_eq_of_lt (by omega)];omega
 have b0:(n:Int) % (256:Int)=((Oq n).toNat:Int):=by
  unfold Oq;rw[UInt8.toNat_ofNat',Nat.mod_eq_of_lt (by omega)];omega
 obtain⟨y1,hy1⟩:∃y,y=OR n:=⟨_,rfl⟩
 obtain⟨y0,hy0⟩:∃y,y=Oq n:=⟨_,rfl⟩
 rw[←hy1] at b8;rw[←hy0] at b0;rw[←hy1, ←hy0];have hl1:=y1.toNat_lt;have hl0:=y0.toNat_lt;clear hy1 hy0;go_enter Tryz.func97,Tryz.ntmps97;go_wp2;go_ret2;exact⟨rfl,rfl⟩
theorem Pp (n:Nat) (hn:n≤256) (w:World):Calls Tryz.prog 98 #[.int .i64 (n:Int)] w fun e w'=>e=.returned (.int .i64 (((n+7) / 8:Nat):Int))∧w=w':=by
 obtain⟨m,hm⟩:∃m,m=(n+7) / 8:=⟨_,rfl⟩
 have hq:Int.tdiv ((n:Int)+7) 8=(m:Int):=by rw[hm];rfl
 have hq':((n:Int)+7) / 8=(m:Int):=by omega
 have hw:IntKind.i64.wrap ((n:Int)+7)=(n:Int)+7:=IntWalk.i64_in _ (by omega);have hw2:IntKind.i64.wrap (m:Int)=(m:Int):=IntWalk.i64_in _ (by omega);rw[←hm];clear hm;go_enter Tryz.func98,Tryz.ntmps98;go_wp2;go_ret;exact⟨rfl,rfl⟩
theorem TA {t:Tr} (ht:t.isNode=false) (hk:∀e∈t.ents,e.1.length=32) (w:World):Calls Tryz.prog 182 #[.agg (FQ t)] w fun e w'=>e=.returned (.int .i64 0)∧Adds w w':=by
 cases t with
 | node l r=>cases ht
 | nil=>exact M7 w
 | leaf a v=>exact MD (hk (a,v) (List.mem_singleton.2 rfl)) (Tag.AT _ _) w
theorem TY {t:Tr} (ht:t.isNode=false) (hk:∀e∈t.ents,e.1.length=32) (so:Option Addr) (n cap:Nat) (hn:n≤256) (w:World):Calls Tryz.prog 96 #[.agg (BN (.slice so n cap) (FQ t))] w fun e w'=>e=.returned (.int .i64 0)∧Adds w w':=by
 obtain⟨hNs,hN1⟩:=FN ht hk;have hch:=fun w=>TA ht hk w
 obtain⟨kd,hkd,hk2,_⟩:=Qa ht;obtain⟨N,hN⟩:∃N,N=FQ t:=⟨_,rfl⟩
 rw[←hN] at hNs hN1 hch hkd ⊢;obtain⟨C,hC⟩:∃C,C=BN (.slice so n cap) N:=⟨_,rfl⟩
 have q0:C[0]?=some (.slice so n cap):=by rw[hC];exact G5 _ _
 have q1:C[1]?=some (.int .u8 kd):=by rw[hC];exact Po _ _ _ hkd
 have qn:C.extract 1 (1+129)=N:=by rw[hC];exact Ko _ _ hNs
 have qs:C.size=130:=by rw[hC];exact BM hNs
 rw[←hC];have hn':decide ((256:Int)<(n:Int))=false:=decide_eq_false (by omega);have hk2':(kd == 2)=false:=by simpa using hk2
 have HC:=(hIq hch (aIq q0 (aIq q1 (aIq qn qs))))
 clear hch q0 q1 qn qs hC hkd hN hNs hN1 hk ht hk2;go_enter Tryz.func96,Tryz.ntmps96;go_upto_region 1 with fail;refine BJ (fun w1 hw1=>?_);have a1:Adds w w1:=by rw[hw1];exact(Ch.refl _ _).alloc _
 have r1:w1.heap[w.heap.size]?=some (.cells C 94 (0,0)):=by rw[hw1];exact heap_alloc_new _ _
 have c0:=AH r1 HC.out.2.1;have H1:=(hIq a1 r1)
 clear a1 r1 hw1
 go_wp2_with (first
  | fail
  | ((with_reducible show zOq (.load 92 _));refine AG rfl 92 _ rfl w.heap.size 1 rfl H1.out.2 Tryz.underlying92 rfl B6.2.1 (by rw[HC.out.2.2.2.2];omega) N HC.out.2.2.2.1 ?_))
 refine(HC.out.1 _).mono ?_;rintro e w2 ⟨rfl,a2⟩;have c1:=AH (a2.row H1.out.2 id) HC.out.2.2.1;have H2:=Lib.hid (H1.out.1.trans a2 (fun _=>fEq));clear a2 c0;go_wp2;go_ret;exact⟨rfl,H2.out⟩
end Go.Proofs.YtngbdbpofifimaaGreat.Law15
