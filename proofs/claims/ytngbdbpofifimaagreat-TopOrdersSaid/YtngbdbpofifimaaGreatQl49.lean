/- Laws of the layers below. -/
import Derived.Test.YtngbdbpofifimaaGreatQl48
import Derived.SizedLaws
set_option maxHeartbeats 3200000
set_option maxRecDepth 100000
set_option linter.unusedVariables false
namespace Go.Proofs.YtngbdbpofifimaaGreat.Law15
open Go.RowKit Go.Sort Go.Proofs.YtngbdbpofifimaaGreat.ShaW Go.Proofs.YtngbdbpofifimaaGreat.Path Go.Proofs.YtngbdbpofifimaaGreat.Store Go.Proofs.YtngbdbpofifimaaGreat.Law9 Go.Proofs.YtngbdbpofifimaaGreat.Law14
theorem Us {w:World} {b n cap:Nat} {ao:Option Addr} {l:List Pr} (h:EK w b (.slice ao n cap) l):l.length≤cap:=by
 rcases h.2 with⟨e,h1⟩|⟨g,c,cur,e,_,_,h3,_⟩
 · rw[h1];exact Nat.zero_le _
 injection e with _ _ e3;rw[e3];exact h3
theorem TD {l l':List Pr} (h:Df l) (hp:l'.Perm l):Df l':=⟨by rw[hp.length_eq];exact h.1,fun x hx=>h.2.1 x (hp.mem_iff.1 hx),(hp.map _).nodup_iff.2 h.2.2⟩
theorem T3 {σ:AD Nd} {root:Int} {L:AS} (D:Db σ root L) (key:List UInt8):((tree 256 L).sides key 0).length≤256:=by
 obtain⟨l,e1,ho⟩:=On.ex (k:=key) D.rep;obtain⟨h1,_,_⟩:=ho.sides D.good.fit D.rep;have h2:=ho.len D.good.fit (Nat.zero_le _);omega
theorem Small.ents {n:Nat} {L:AS} {M:Nmd} (h:Small n L M) (x:List UInt8):(Cv L M x).length≤n:=by
 unfold Cv;split
 · exact h.now
 cases hf:M.find? fun p=>decide (p.1=x) with
 | none=>exact Nat.zero_le _
 | some p=>exact h.each p (List.mem_of_find?_eq_some hf)
structure bJ (base:Nat) (w5 wr:World) (v:Value) (out tl:List Pr):Prop where
 perm:tl.Perm out
 row:EK wr base v tl
 ch:Ch (fun k=>v.ownBlock=some k) w5 wr
theorem RW {W:World} {ao:Option Addr} {l:List CE} (cap:Nat) (hl:I5 W ao l) (hla:∀a∈l,a.l.length*56≤140737488351232) (hll:l.length≤140737488351232) {bo:Option Addr} {ks:List Int} (cb:Nat) (hi:Store.Fy W bo ks) (hks:ks.length≤maxLen) (size which:Int) {key:List UInt8} (hk:key.length=32) :
 Calls Tryz.prog 5 #[.slice ao l.length cap,.slice bo ks.length cb,.int .i64 size,.int .i64 which,.agg (AK key)] W fun e w'=>e=.returned (.bool true)∧Adds W w':=by
 obtain⟨K,hK⟩:∃K,K=AK key:=⟨_,rfl⟩
 have hKs:K.size=32:=by rw[hK,AN,hk]
 have hpb:=fun w9=>Nr w9 hk
 rw[←hK] at hpb ⊢;obtain⟨len,hlen⟩:∃n,n=l.length:=⟨_,rfl⟩
 obtain⟨nb,hnb⟩:∃n,n=ks.length:=⟨_,rfl⟩
 rw[←hlen, ←hnb];have hnbm:nb≤9223372036854775807:=by rw[hnb];unfold maxLen at hks;omega
 have HL:=(hIq hl (aIq hla (aIq hll hlen)))
 have HI:=(hIq hi hnb)
 have HK:=(hIq hKs (aIq hpb hk))
 clear hl hla hll hlen hi hks hnb hK hKs hpb hk;go_enter Tryz.func5,Tryz.ntmps5;go_upto_region 1 with fail;refine BJ (fun w1 hw1=>?_);have a1:Adds W w1:=by rw[hw1];exact(Ch.refl _ _).alloc _
 have r1:w1.heap[W.heap.size]?=some (.cells K 47 (0,0)):=by rw[hw1];exact heap_alloc_new _ _
 obtain⟨bk,hbk⟩:∃b,b=W.heap.size:=⟨_,rfl⟩
 rw[←hbk] at r1 ⊢;have hmd:=YC (W:=w1) cap (HL.out.1.Af a1 (fun _=>fEq)) HL.out.2.1 HL.out.2.2.1;rw[←HL.out.2.2.2] at hmd;have H1:=(hIq a1 (aIq r1 hmd))
 clear a1 r1 hw1 hbk hmd;go_wp2_with fail;refine H1.out.2.2.mono ?_;rintro e w2 ⟨d,v,s,σ,root,L,M,rfl,hst,hsm⟩;have H2:=(hIq hst hsm)
 clear hst hsm;go_wp2_with fail;refine(Wt H2.out.1.dct H2.out.1.few which).mono ?_;rintro e w3 ⟨a3,x,hx,rfl⟩;have d3:=H2.out.1.dct.adds a3;have hen:=Qc d3 hx (by have:=H2.out.2.ents x;omega);obtain⟨S,hS⟩:∃S,S=BP x:=⟨_,rfl⟩
 obtain⟨LX,hLX⟩:∃LX,LX=Cv L M x:=⟨_,rfl⟩
 obtain⟨T,hT⟩:∃T,T=tree 256 LX:=⟨_,rfl⟩
 have hpr:=fun w9 (a:Adds w3 w9) kv (hb:Bytes w9 kv key)=>PR (d3.adds a) hx hb HK.out.2.2
 have hsf:=T3 (d3.name hx) key
 have hTe:∀e∈(T.stop key 0).ents,e.1.length=32:=fun e he=>by
  rw[hT,hLX] at he;exact(((d3.name hx).rep.ents (d3.name hx).good.fit).1 e (GQ key _ 0 e he)).1
 rw[←hS, ←hLX] at hen;rw[←hS, ←hLX, ←hT] at hpr;rw[←hLX, ←hT] at hsf;rw[←hS];have hW3:=H1.out.1.trans d3.world (fun _=>fEq);have rk3:=d3.world.row H1.out.2.1 id;have H3:=(hIq hen (aIq hpr (aIq hsf (aIq hTe (aIq hT (aIq hW3 rk3))))))
 clear a3 hx d3 hen hS hLX hpr hsf hTe hT hW3 rk3;go_wp2_with fail;refine H3.out.1.mono ?_;rintro e w4 ⟨a4,v4,out,rfl,ht,hol,hfi,htr⟩;obtain⟨R,hR⟩:∃R,R=AK (tree 256 LX).dig:=⟨_,rfl⟩
 rw[←hR];obtain⟨lo,tc,rfl⟩:=ht.row.form;have HRs:=(hIq (show R.size=32 by rw[hR,AN];exact Tr.B9 _) (aIq (show ∀v∈R.toList,v.oneCell'=true by rw[hR];exact Ae _) hR))
 obtain⟨n,hn⟩:∃n,n=out.length:=⟨_,rfl⟩
 rw[←hn];have ht':=ht;rw[←hn] at ht';have H4:=(hIq a4 (aIq ht' (aIq hfi (aIq htr hn))))
 have hn256:n≤4096:=by rw[hn];exact hfi.1
 clear a4 ht ht' hfi htr hn hol hR
 go_upto_region 6 with(first
  | fail
  | ((with_reducible show zOq (.alloc 35));refine AI rfl 35 rfl (.agg (AK (List.replicate 32 0))) EJ ?_;dsimp only[Value.cells];try simp only[World.size_alloc])
  | ((with_reducible show zOq (.store 35 _ _));refine AE rfl 35 _ _ rfl w4.heap.size 0 R rfl rfl (heap_alloc_new _ _) (by rw[Be,HRs.out.1]) (by rw[HRs.out.1];exact Nat.le_of_eq (Nat.zero_add _)) HRs.out.2.1 R (by rw[AJ _ _ (by rw[Array.length_toList,Array.length_toList,HRs.out.1];rfl)]) ?_))
 refine BJ (fun w5 hw5=>?_);have a5:Adds w4 w5:=by rw[hw5];exact((Ch.refl _ _).alloc _).setRow (.inr (Nat.le_refl _)) _
 have r15:w5.heap[w4.heap.size]?=some (.cells R 35 (0,0)):=by rw[hw5];exact AF (heap_alloc_new w4 (.cells (AK (List.replicate 32 0)) 35)) R
 obtain⟨b15,hb15⟩:∃b,b=w4.heap.size:=⟨_,rfl⟩
 rw[←hb15] at r15 ⊢;have H5:=(hIq a5 (aIq r15 (aIq hb15 (H4.out.1.trans a5 (fun _=>fEq)))))
 clear a5 r15 hw5 hb15;by_cases hn60:60<n
 · have e1:decide ((60:Int)<(n:Int))=true:=decide_eq_true (by omega)
   go_wp2;go_ret;exact⟨rfl,H3.out.2.2.2.2.2.1.trans H5.out.2.2.2 (fun _=>fEq)⟩
 have e1:decide ((60:Int)<(n:Int))=false:=decide_eq_false (by omega);have hn60':n≤60:=by omega
 clear hn60;go_upto_region 8 with fail;go_wp2_with fail;go_loopg [17,18,19] 60 (fun g s17 s18 s19 wr=>∃(k:Nat) (tl:List Pr),s17=.int .i64 (k:Nat)∧k+g=60∧bJ w3.heap.size w5 wr (.slice lo n tc) out tl)
 case atStart=>exact⟨0,out,rfl,rfl,⟨List.Perm.refl _,H4.out.2.1.row.adds H5.out.1,Ch.refl _ _⟩⟩
 obtain⟨k,tl,rfl,hk,hsw⟩:=hrel;have HSW:=(hIq hsw hk)
 have hk60:k≤60:=by omega
 have htl:tl.length=n:=by rw[hsw.perm.length_eq,H4.out.2.2.2.2]
 have hlt3:∀j,(Value.slice lo n tc).ownBlock=some j→w3.heap.size≤j∧j<b15:=fun j hj=>by rw[H5.out.2.2.1];exact H4.out.2.1.row.lt j hj
 have a3r:Adds w3 wr:=H5.out.2.2.2.trans hsw.ch (fun j hj=>.inr (hlt3 j hj).1)
 have hgood:∀x∈tl,x.Good wr:=fun x hx=>by
  obtain⟨p1,p2,p3⟩:=H4.out.2.1.vals x (hsw.perm.mem_iff.1 hx);refine⟨p1,(p2.Af H5.out.1 (fun _ _ h=>h)).Af hsw.ch (fun j hj hf=>(p3 j hj).2.2 hf),fun _ j hj=>?_⟩;have h1:=(p3 j hj).2.1;have h2:=H5.out.1.size;have h3:=hsw.ch.size;omega
 have HG:=(hIq htl (aIq hlt3 (aIq a3r hgood)))
 clear hk hsw htl hlt3 a3r hgood
 iterate 2 go_step
 go_cut [70] (fun s70 wx=>∃c:Bool,s70=.bool c∧wx=wr∧(c=true→k<nb∧k<60∧0<n))
 case first =>
  by_cases h1:k<nb
  · have e1:decide ((k:Int)<(nb:Int))=true:=decide_eq_true (by omega)
    have e1':decide (k<nb)=true:=decide_eq_true h1;by_cases h2:k<60
    · have e2:decide ((k:Int)<60)=true:=decide_eq_true (by omega)
      have e2':decide (k<60)=true:=decide_eq_true h2;by_cases h3:0<n
      · have e3:decide ((0:Int)<(n:Int))=true:=decide_eq_true (by omega)
        have e3':decide (0<n)=true:=decide_eq_true h3;have HH:=(hIq h1 (aIq h2 h3))
        clear h1 h2 h3;go_wp2;go_meet;exact⟨true,rfl,rfl,fun _=>HH.out⟩
      have e3:decide ((0:Int)<(n:Int))=false:=decide_eq_false (by omega);have e3':decide (0<n)=false:=decide_eq_false h3;clear h1 h2 h3;go_wp2;go_meet;exact⟨false,rfl,rfl,fun h=>by cases h⟩
    have e2:decide ((k:Int)<60)=false:=decide_eq_false (by omega);have e2':decide (k<60)=false:=decide_eq_false h2;clear h1 h2;go_wp2;go_meet;exact⟨false,rfl,rfl,fun h=>by cases h⟩
  have e1:decide ((k:Int)<(nb:Int))=false:=decide_eq_false (by omega);have e1':decide (k<nb)=false:=decide_eq_false h1;clear h1;go_wp2;go_meet;exact⟨false,rfl,rfl,fun h=>by cases h⟩
 obtain⟨c,rfl,rfl,hc⟩:=hcut;cases c with
 | true =>
  obtain⟨hkn,hk4,hn0⟩:=hc rfl;obtain⟨y0,hy0⟩:∃y,ks[k]?=some y:=⟨_,List.getElem?_eq_getElem (by have:=HI.out.2;omega)⟩
  obtain⟨gi,offi,rfl,hcell0⟩:=HI.out.1 k y0 hy0;have hcell:=(H3.out.2.2.2.2.2.1.trans HG.out.2.2.1 (fun _=>fEq)).cell hcell0 id;have hlen2:tl.length=n:=HG.out.1;have hnI:(0:Int)<(n:Int):=by omega
  have hz:((n:Int) == 0)=false:=by simpa using (show ¬(n:Int)=0 by omega)
  have t1:=Int.lt_tmod_of_pos (k:Int) hnI;have t2:=Int.tmod_lt_of_pos (k:Int) hnI;have t3:0≤Int.tmod (k:Int) (n:Int):=Int.tmod_nonneg _ (by omega);have hw0:IntKind.i64.wrap (Int.tmod (k:Int) (n:Int))=Int.tmod (k:Int) (n:Int):=IntWalk.i64_in _ (by omega);obtain⟨a,ha⟩:∃a:Nat,Int.tmod (k:Int) (n:Int)=a:=⟨(Int.tmod (k:Int) (n:Int)).toNat,by omega⟩
  have hal:a<n:=by omega
  obtain⟨b1,b2⟩:=OH y0 hn0;obtain⟨b,hb⟩:∃b:Nat,pick y0 n=b:=⟨(pick y0 n).toNat,by omega⟩
  have hbl:b<n:=by omega
  have hpk:=fun w1=>Lr y0 n hn0 (by omega) w1
  rw[hb] at hpk;have HP:=Lib.hid hpk;have HT:=(hIq ha hw0)
  have HC:=Lib.hid hcell;have hki:(k:Int)<(nb:Int):=by omega
  have hne:¬n=0:=by omega
  clear hpk hb ha hw0 hcell hcell0 hy0 hc t1 t2 t3 b1 b2;go_wp2;refine AO (fun w0=>w0.cell? ⟨gi,offi+k,none⟩=some (.int .i64 y0)) 13 [(0,false),(1,false),(2,false),(3,false),(4,false),(5,false),(6,false),(7,false),(8,false),(9,false),(10,true),(11,false),(12,false)] (by kernel_rfl) (by kernel_rfl) ?_ ?_
  · exact HC.out
  iterate 3
   refine plan_look rfl rfl (fun w0 hS=>(by clear hS;go_simp;try rfl)) ?_;simp only[Act.put,nAq,nBq,nCq]
  refine plan_look (v:=.int .i64 a) rfl rfl (fun w0 hS=>(by clear hS;have h1:=HT.out.1;have h2:=HT.out.2;go_simp;try simp[h1,h2,hne])) ?_;simp only[Act.put,nAq,nBq,nCq]
  iterate 3
   refine plan_look rfl rfl (fun w0 hS=>(by clear hS;go_simp;try rfl)) ?_;simp only[Act.put,nAq,nBq,nCq]
  refine plan_look (v:=.int .i64 y0) rfl rfl (fun w0 hS=>(by go_simp;try rfl)) ?_;simp only[Act.put,nAq,nBq,nCq]
  iterate 2
   refine plan_look rfl rfl (fun w0 hS=>(by clear hS;go_simp;try rfl)) ?_;simp only[Act.put,nAq,nBq,nCq]
  refine AV rfl ?_;go_wp2_with fail;refine(HP.out _).mono ?_;rintro e w9 ⟨rfl,rfl⟩;dsimp only;go_step;refine wpList_nil ?_;change _∧_;refine⟨HC.out,?_⟩
  iterate 2
   refine plan_look rfl rfl (fun w0 hS=>(by clear hS;go_simp;try rfl)) ?_;simp only[Act.put,nAq,nBq,nCq]
  refine AZ ?_;simp only[List.drop_succ_cons,List.drop_zero];go_wp2;refine NoPanic.normal ?_;obtain⟨xa,hxa⟩:∃y,tl[a]?=some y:=⟨_,List.getElem?_eq_getElem (by omega)⟩
  obtain⟨yb,hyb⟩:∃y,tl[b]?=some y:=⟨_,List.getElem?_eq_getElem (by omega)⟩
  have hkt:He tl:=fun x hx=>(HG.out.2.2.2 x hx).key
  have hga:=HG.out.2.2.2 xa (List.mem_of_getElem? hxa);have hgb:=HG.out.2.2.2 yb (List.mem_of_getElem? hyb);obtain⟨gt,ct,cur,hv,hbg,hg0,hs0,hx0,hset⟩:=HSW.out.1.row.drew.drew.open hkt (by omega)
  injection hv with hv1 hv2 hv3;subst hv1;have hma:a*33+33≤tl.length*33:=by have:=Nat.mul_le_mul_right 33 (show a+1≤tl.length by omega);omega
  have hmb:b*33+33≤tl.length*33:=by have:=Nat.mul_le_mul_right 33 (show b+1≤tl.length by omega);omega
  have hca:=hx0 a xa hxa;have hcb:=hx0 b yb hyb;have hset1:=hset a yb (by omega) hgb.key
  have hkt1:He (tl.set a yb):=fun x hx=>by
   rcases List.mem_or_eq_of_mem_set hx with h|h
   · exact hkt x h
   rw[h];exact hgb.key
  obtain⟨gt',ct',cur',hv',_,hg1,hs1,_,hset'⟩:=hset1.open hkt1 (by rw[List.length_set];omega)
  injection hv' with hv1' hv2' hv3';injection hv1' with hv1';injection hv1' with hv1' _ _;have hset2:=hset' b xa (by rw[List.length_set];omega) hga.key;rw[←hv1'] at hg1 hset2;have hpm:=(swap_perm hxa hyb).trans HSW.out.1.perm;obtain⟨X,hX⟩:∃X,X=xa.cells:=⟨_,rfl⟩
  obtain⟨Y,hY⟩:∃Y,Y=yb.cells:=⟨_,rfl⟩
  have hXs:X.size=33∧(∀v∈X.toList,v.oneCell'=true):=by rw[hX];exact⟨Pr.size hga.key,Pr.one hga⟩
  have hYs:Y.size=33∧(∀v∈Y.toList,v.oneCell'=true):=by rw[hY];exact⟨Pr.size hgb.key,Pr.one hgb⟩
  rw[←hX] at hca hset2;rw[←hY] at hcb hg1 hset2;rw[List.length_set] at hs1;have HA:=(hIq hca (aIq hcb (aIq hg0 (aIq hg1 (aIq (show a*33+33≤cur.size by omega) (aIq (show b*33+33≤cur.size by omega) (show b*33+33≤cur'.size by omega)))))))
  have HXY:=(hIq hXs hYs)
  have HS2:=(hIq hset2 (aIq hpm hbg))
  have hali:(a:Int)<(n:Int):=by omega
  have hbli:(b:Int)<(n:Int):=by omega
  clear hca hcb hg0 hg1 hs0 hs1 hx0 hset hset1 hset' hset2 hkt hkt1 hga hgb hma hmb hX hY hXs hYs hpm hbg hv1' hxa hyb hv3 hv2 hlen2 hv2' hv3';go_wp2;refine LB 12 (fun w0=>w0.heap[gt]?=some (.cells cur 86 (0,0))) 16 [(0,0),(1,0),(2,0),(3,0),(4,0),(5,0),(6,0),(7,1),(8,0),(9,0),(10,0),(11,1),(12,2),(13,2),(14,2),(15,2)] (by kernel_rfl) (by kernel_rfl) ?_ ?_
  · exact HA.out.2.2.1
  iterate 7
   refine L7 rfl rfl (fun w0=>(by go_simp;try rfl)) ?_;simp only[Act.put,nAq,nBq,nCq]
  refine MW rfl rfl 86 _ rfl gt (b*33) 33 (by simp[go_sem]) (fun w0 hS=>hS) Tryz.underlying86 rfl Fu HA.out.2.2.2.2.2.1 Y HA.out.2.1 ?_;simp only[Act.put,nAq,nBq,nCq]
  iterate 3
   refine L7 rfl rfl (fun w0=>(by go_simp;try rfl)) ?_;simp only[Act.put,nAq,nBq,nCq]
  refine MW rfl rfl 86 _ rfl gt (a*33) 33 (by simp[go_sem]) (fun w0 hS=>hS) Tryz.underlying86 rfl Fu HA.out.2.2.2.2.1 X HA.out.1 ?_;simp only[Act.put,nAq,nBq,nCq];refine Jq rfl ?_;go_wp2;refine⟨.inl rfl,?_⟩;refine Jq rfl ?_
  go_wp2_with (first
   | fail
   | ((with_reducible show zOq (.store 86 _ _));go_must (refine AE rfl 86 _ _ rfl gt (a*33) Y (by simp[go_sem]) rfl HA.out.2.2.1 (by rw[Fu,HXY.out.2.1]) (by rw[HXY.out.2.1];exact HA.out.2.2.2.2.1) HXY.out.2.2 _ rfl ?_)))
  refine⟨.inl rfl,?_⟩;simp only[Act.put];refine Jq rfl ?_;go_wp2;refine⟨.inl rfl,?_⟩;refine Jq rfl ?_
  go_wp2_with (first
   | fail
   | ((with_reducible show zOq (.store 86 _ _));go_must (refine AE rfl 86 _ _ rfl gt (b*33) X (by simp[go_sem]) rfl HA.out.2.2.2.1 (by rw[Fu,HXY.out.1.1]) (by rw[HXY.out.1.1];exact HA.out.2.2.2.2.2.2) HXY.out.1.2 _ rfl ?_)))
  refine⟨.inl rfl,?_⟩;refine Td ?_;simp only[List.drop_succ_cons,List.drop_zero];go_wp2;refine NoPanic.normal ?_;go_wp2;go_roundg (gk-1)
  case measure=>have:=HSW.out.2;omega
  exact⟨k+1,_,by simp,by have:=HSW.out.2;omega,⟨HS2.out.2.1,HS2.out.1,(HSW.out.1.ch.drew.drew.setRow (.inl rfl) _).setRow (.inl rfl) _⟩⟩
 | false =>
  obtain⟨ao6,cap6,e6,hpa⟩:=Mw HSW.out.1.row HG.out.2.2.2;have e61:ao6=lo:=by injection e6 with h _ _;exact h.symm
  rw[e61] at hpa;clear e6;have hcap:=Us HSW.out.1.row;have hft:=TD H4.out.2.2.1 HSW.out.1.perm;have hpk:=Lr size 20 (by decide) (by decide);have hpi:=OH size (show 0<20 by decide);obtain⟨pk,hp⟩:∃i:Nat,pick size 20=i:=⟨(pick size 20).toNat,by omega⟩
  rw[hp] at hpk hpi;have hwt:=RC tc hpa hcap hft (by rw[HG.out.1];exact hn60') (1+pk) (by omega) (by omega);rw[HG.out.1] at hwt;have hw1:wrap64 (1+(pk:Int))=((1+pk:Nat):Int):=by unfold wrap64;omega
  obtain⟨sz,hsz⟩:∃s,s=1+pk:=⟨_,rfl⟩
  rw[←hsz] at hwt hw1;have HP:=(hIq hpk hwt)
  clear hc hpa e61 hcap hft hpk hpi hp hwt hsz;go_wp2_with fail;refine(HP.out.1 _).mono ?_;rintro e w6 ⟨rfl,rfl⟩;go_wp2_with fail;refine HP.out.2.mono ?_;rintro e w7 ⟨d2,v2,s2,σ2,root2,L2,rfl,hd2,hp2⟩
  have hT2:tree 256 L2=T:=by
   rw[H3.out.2.2.2.2.1,IW 256 (hp2.trans (HSW.out.1.perm.map Pr.ent))];exact H4.out.2.2.2.1
  have hTR:AK T.dig=R:=by rw[H3.out.2.2.2.2.1,HRs.out.2.2]
  have hm2:([]:List UInt8)∈FY []:=List.mem_cons_self ..;have hE2:Cv L2 [] []=L2:=if_pos rfl;have hrt2:=KM hd2 hm2;rw[hE2,hT2,hTR] at hrt2;have hpr2:=fun w9 (a:Adds w7 w9) kv (hb:Bytes w9 kv key)=>PR (hd2.adds a) hm2 hb HK.out.2.2
  rw[hE2,hT2] at hpr2;have r15:=hd2.world.row (HSW.out.1.ch.row H5.out.2.1 (fun hf=>absurd (HG.out.2.1 _ hf).2 (Nat.lt_irrefl _))) id;have a37:Adds w3 w7:=HG.out.2.2.1.trans hd2.world (fun _=>fEq);have H7:=(hIq hrt2 (aIq hpr2 (aIq r15 a37)))
  clear hp2 hd2 hT2 hTR hm2 hE2 hrt2 hpr2 r15 a37 HP;obtain⟨Y,hY⟩:∃Y,Y=LM:=⟨_,rfl⟩
  have hyf:=Ev;rw[←hY] at hyf;have HY:=(hIq hyf.1 (aIq hyf.2.1 (show Y.size=130 by rw[hY];exact BM rfl)))
  obtain⟨hNs,hN1⟩:=FN (EX key T 0) H3.out.2.2.2.1;clear hY hyf;go_wp2_with fail;refine H7.out.1.mono ?_;rintro e w8 ⟨rfl,a8⟩;have A8:=Lib.hid a8;clear a8
  go_upto_region 17 with(first
   | fail
   | ((with_reducible show zOq (.alloc 35));refine AI rfl 35 rfl (.agg (AK (List.replicate 32 0))) EJ ?_;dsimp only[Value.cells];try simp only[World.size_alloc])
   | ((with_reducible show zOq (.store 35 _ _));refine AE rfl 35 _ _ rfl w8.heap.size 0 R rfl rfl (heap_alloc_new _ _) (by rw[Be,HRs.out.1]) (by rw[HRs.out.1];exact Nat.le_of_eq (Nat.zero_add _)) HRs.out.2.1 R (by rw[AJ _ _ (by rw[Array.length_toList,Array.length_toList,HRs.out.1];rfl)]) ?_))
  refine BJ (fun w9 hw9=>?_);have a9:Adds w7 w9:=by rw[hw9];exact(A8.out.alloc _).setRow (.inr A8.out.size) _
  have r22:w9.heap[w8.heap.size]?=some (.cells R 35 (0,0)):=by rw[hw9];exact AF (heap_alloc_new w8 (.cells (AK (List.replicate 32 0)) 35)) R
  obtain⟨b22,hb22⟩:∃b,b=w8.heap.size:=⟨_,rfl⟩
  rw[←hb22] at r22 ⊢;have a39:Adds w3 w9:=H7.out.2.2.2.trans a9 (fun _=>fEq);have H9:=(hIq a9 (aIq a39 (aIq r22 (aIq (a9.row H7.out.2.2.1 id) (a39.row H3.out.2.2.2.2.2.2 id)))))
  clear a9 r22 hw9 hb22 a39
  go_wp2_with (first
   | fail
   | ((with_reducible show zOq (.load 47 _));refine AG rfl 47 _ rfl bk 0 rfl H9.out.2.2.2.2 Tryz.underlying47 rfl AY (by rw[HK.out.1];omega) K (by have:=HK.out.1;simp[←this]) ?_))
  refine(HK.out.2.1 _).mono ?_;rintro e w10 ⟨gkb,kc,rfl,hkb,_,_,a10⟩;have H10:=(hIq (H9.out.1.trans a10 (fun _=>fEq)) (aIq (H9.out.2.1.trans a10 (fun _=>fEq)) (aIq hkb (aIq (a10.row H9.out.2.2.1 id) (a10.row H9.out.2.2.2.1 id)))))
  clear hkb a10;go_wp2_with fail;refine(H3.out.2.1 _ H10.out.2.1 _ H10.out.2.2.1).mono ?_;rintro e w11 ⟨pv1,rfl,hh1,a11⟩;obtain⟨C1,hC1⟩:∃C,C=BN pv1 (FQ (T.stop key 0)):=⟨_,rfl⟩
  obtain⟨po1,pc1,pe1,_,_⟩:=hh1.at (Cx key T 0);have HC1:=(hIq (show C1.size=130 by rw[hC1];exact BM hNs) (show ∀v∈C1.toList,v.oneCell'=true by rw[hC1];exact FJ (by rw[pe1];rfl) hN1))
  rw[←hC1];have H11:=(hIq a11 (aIq (hh1.at (Cx key T 0)) hC1))
  clear hh1 a11 hC1 pe1
  go_upto_region 19 with(first
   | fail
   | ((with_reducible show zOq (.alloc 94));refine AI rfl 94 rfl (.agg Y) HY.out.1 ?_;dsimp only[Value.cells];try simp only[World.size_alloc])
   | ((with_reducible show zOq (.store 94 _ _));refine AE rfl 94 _ _ rfl w11.heap.size 0 C1 rfl rfl (heap_alloc_new _ _) (by rw[HY.out.2.1,HC1.out.1]) (by rw[HC1.out.1,HY.out.2.2];exact Nat.le_of_eq (Nat.zero_add _)) HC1.out.2 C1 (by rw[AJ _ _ (by rw[Array.length_toList,Array.length_toList,HC1.out.1,HY.out.2.2])]) ?_))
  refine BJ (fun w12 hw12=>?_);have a12:Adds w11 w12:=by rw[hw12];exact((Ch.refl _ _).alloc _).setRow (.inr (Nat.le_refl _)) _
  have r25:w12.heap[w11.heap.size]?=some (.cells C1 94 (0,0)):=by rw[hw12];exact AF (heap_alloc_new w11 (.cells Y 94)) C1
  obtain⟨b25,hb25⟩:∃b,b=w11.heap.size:=⟨_,rfl⟩
  rw[←hb25] at r25 ⊢;have a1012:Adds w10 w12:=H11.out.1.trans a12 (fun _=>fEq);have H12:=(hIq a1012 (aIq r25 (aIq (H11.out.2.1.adds a12) (aIq (H10.out.2.2.1.Af a1012 (fun _ _ h=>h)) (H10.out.1.trans a1012 (fun _=>fEq))))))
  clear a12 r25 hw12 hb25 a1012;go_wp2_with fail;refine(H7.out.2.1 _ H12.out.2.2.2.2 _ H12.out.2.2.2.1).mono ?_;rintro e w13 ⟨pv2,rfl,hh2,a13⟩;obtain⟨C2,hC2⟩:∃C,C=BN pv2 (FQ (T.stop key 0)):=⟨_,rfl⟩
  obtain⟨po2,pc2,pe2,_,_⟩:=hh2.at (Cx key T 0);have HC2:=(hIq (show C2.size=130 by rw[hC2];exact BM hNs) (show ∀v∈C2.toList,v.oneCell'=true by rw[hC2];exact FJ (by rw[pe2];rfl) hN1))
  rw[←hC2];have H13:=(hIq a13 (aIq (hh2.at (Cx key T 0)) hC2))
  clear hh2 a13 hC2 pe2 hNs hN1
  go_upto_region 20 with(first
   | fail
   | ((with_reducible show zOq (.alloc 94));refine AI rfl 94 rfl (.agg Y) HY.out.1 ?_;dsimp only[Value.cells];try simp only[World.size_alloc])
   | ((with_reducible show zOq (.store 94 _ _));refine AE rfl 94 _ _ rfl w13.heap.size 0 C2 rfl rfl (heap_alloc_new _ _) (by rw[HY.out.2.1,HC2.out.1]) (by rw[HC2.out.1,HY.out.2.2];exact Nat.le_of_eq (Nat.zero_add _)) HC2.out.2 C2 (by rw[AJ _ _ (by rw[Array.length_toList,Array.length_toList,HC2.out.1,HY.out.2.2])]) ?_))
  refine BJ (fun w14 hw14=>?_);have a14:Adds w13 w14:=by rw[hw14];exact((Ch.refl _ _).alloc _).setRow (.inr (Nat.le_refl _)) _
  have r27:w14.heap[w13.heap.size]?=some (.cells C2 94 (0,0)):=by rw[hw14];exact AF (heap_alloc_new w13 (.cells Y 94)) C2
  obtain⟨b27,hb27⟩:∃b,b=w13.heap.size:=⟨_,rfl⟩
  rw[←hb27] at r27 ⊢;have a1214:Adds w12 w14:=H13.out.1.trans a14 (fun _=>fEq);have hen1:=ML (w:=w14) (EX key T 0) H3.out.2.2.2.1 (H12.out.2.2.1.adds a1214) H3.out.2.2.1;have hen2:=fun w9 (a:Adds w14 w9)=>ML (w:=w9) (EX key T 0) H3.out.2.2.2.1 ((H13.out.2.1.adds a14).adds a) H3.out.2.2.1
  have hpkl:=JX (t:=T.stop key 0) (Cx key T 0) H3.out.2.2.2.1 H3.out.2.2.1;obtain⟨P,hP⟩:∃P,P=NU (T.sides key 0) (T.stop key 0):=⟨_,rfl⟩
  rw[←hP] at hen1 hen2 hpkl;rw[←H11.out.2.2] at hen1;rw[←H13.out.2.2] at hen2;have H14:=(hIq (H12.out.1.trans a1214 (fun _=>fEq)) (aIq (a1214.row H12.out.2.1 id) (aIq r27 (aIq hen1 (aIq hen2 hpkl)))))
  clear a14 r27 hw14 hb27 a1214 hen1 hen2 hpkl hP
  go_wp2_with (first
   | fail
   | ((with_reducible show zOq (.load 94 _));refine AG rfl 94 _ rfl b25 0 rfl H14.out.2.1 Tryz.underlying94 rfl HY.out.2.1 (by rw[HC1.out.1];omega) C1 (by have:=HC1.out.1;simp[←this]) ?_))
  refine H14.out.2.2.2.1.mono ?_;rintro e w15 ⟨q1,rfl,hq1,a15⟩;obtain⟨qo1,qc1,rfl⟩:=Aj hq1;have hB1:=(GM hq1 (by have:=H14.out.2.2.2.2.2.2;omega)).1;have H15:=(hIq a15 (aIq (a15.row H14.out.2.2.1 id) hB1))
  clear hq1 a15 hB1
  go_wp2_with (first
   | fail
   | ((with_reducible show zOq (.load 94 _));refine AG rfl 94 _ rfl b27 0 rfl H15.out.2.1 Tryz.underlying94 rfl HY.out.2.1 (by rw[HC2.out.1];omega) C2 (by have:=HC2.out.1;simp[←this]) ?_))
  refine(H14.out.2.2.2.2.1 _ H15.out.1).mono ?_;rintro e w16 ⟨q2,rfl,hq2,a16⟩;obtain⟨qo2,qc2,rfl⟩:=Aj hq2;have hB2:=(GM hq2 (by have:=H14.out.2.2.2.2.2.2;omega)).1;have a1016:Adds w10 w16:=(H14.out.1.trans H15.out.1 (fun _=>fEq)).trans a16 (fun _=>fEq);have hsb:=Om (H15.out.2.2.Af a16 (fun _ _ h=>h)) hB2;rw[decide_eq_true rfl] at hsb;obtain⟨pl,hpl⟩:∃pl,pl=P.length:=⟨_,rfl⟩
  rw[←hpl] at hsb ⊢;have hpl2:decide ((2:Int)<(pl:Int))=true:=decide_eq_true (by have:=H14.out.2.2.2.2.2.1;omega);have H16:=(hIq hsb (aIq (a1016.row H10.out.2.2.2.1 id) (aIq (a1016.row H10.out.2.2.2.2 id) (H10.out.2.1.trans a1016 (fun _=>fEq)))))
  have heq:=fun w9=>FU 35 Tryz.underlying35 (tree 256 LX).dig (tree 256 LX).dig (Tr.B9 _) (Tr.B9 _) w9
  simp only[←HRs.out.2.2,decide_true] at heq;clear hq2 a16 hB2 a1016 hsb hpl
  go_wp2_with (first
   | fail
   | ((with_reducible show zOq (.load 35 _));refine Ba (by first|rfl|(simp[Region.wanted];done)) 35 _ rfl b22 0 rfl H16.out.2.1 Tryz.underlying35 rfl Be (by rw[HRs.out.1];omega) R (by have:=HRs.out.1;simp[←this]) ?_)
   | ((with_reducible show zOq (.load 35 _));refine Ba (by first|rfl|(simp[Region.wanted];done)) 35 _ rfl b15 0 rfl H16.out.2.2.1 Tryz.underlying35 rfl Be (by rw[HRs.out.1];omega) R (by have:=HRs.out.1;simp[←this]) ?_))
  refine H16.out.1.mono ?_;rintro e w17 ⟨rfl,rfl⟩;go_wp2;go_ret;exact⟨by first|rfl|simp,H3.out.2.2.2.2.2.1.trans H16.out.2.2.2 (fun _=>fEq)⟩
end Go.Proofs.YtngbdbpofifimaaGreat.Law15
namespace Go.Proofs.YtngbdbpofifimaaGreat.Law15
open Go.RowKit Go.Proofs.YtngbdbpofifimaaGreat.ShaW Go.Proofs.YtngbdbpofifimaaGreat.Path Go.Proofs.YtngbdbpofifimaaGreat.Store Go.Proofs.YtngbdbpofifimaaGreat.Law9 Go.Deep Go.ChangeShapes Go.WideShapes Go.ChangeAt
theorem IA {H:Type} {P:Program} {e:TypeId}:∀ {l:List (DataW H)} {d:DataW H},d∈l→∀n∈d.weights P e,n∈DataW.weightsAll P e l
 | [],d,h=>by cases h
 | d0::l,d,h=>fun n hn=>by
  simp only[DataW.weightsAll,List.mem_append];rcases List.mem_cons.1 h with rfl|h
  · exact .inl hn
  exact .inr (IA h n hn)
section
variable {H : Type} {enc : TypeId×Value→H} {W : World} {base : Nat}
theorem Np {α:Type} [Inhabited α] {m:Nat} (hm0:0<m) {good:α→DataW H→Prop} {cells:α→Array Value} {st T:TypeId} (hst:Tryz.prog.underlying st=some (.slice T)) (hct:Tryz.prog.cellsOf T=m)
 (read:∀ {n:Nat} {cs:List Value} {y:DataW H×List MemPlace},DataW.trod enc Tryz.prog W base (fun _=>true) true n T cs=some y→∃x:α,good x y.1∧cs=(cells x).toList)
 {n:Nat} {cs:List Value} {y:DataW H×List MemPlace} (h:DataW.trod enc Tryz.prog W base (fun _=>true) true n st cs=some y) :
 ∃(ao:Option Addr) (l:List α) (cap:Nat),cs = [.slice ao l.length cap]∧(∀x∈l,∃d,good x d∧∀k∈d.weights Tryz.prog T,k∈y.1.weights Tryz.prog st)∧EN m cells W ao l∧(l = []∨∃k∈y.1.weights Tryz.prog st,l.length*Tryz.prog.bytesOf T≤k):=by
 rcases open_slice hst h with⟨h0,_⟩|⟨a,len,cap,mm,n,D,Pl,hcs,hb,hl,hc,hmm,hx,hi⟩
 · exact⟨none,[],0,h0,fun x hx=>(by cases hx),fun i x hi=>(by simp at hi),.inl rfl⟩
 have hw:y.1.weights Tryz.prog st=(len+(mm-len))*Tryz.prog.bytesOf T::(DataW.weightsAll Tryz.prog T ((List.range len).map D)++DataW.weightsAll Tryz.prog T ((List.range (mm-len)).map fun j=>D (len+j))):=by
  rw[hx];simp[DataW.weights,hst]
 have one:∀i,i<len→∃x:α,good x (D i)∧∃g off,a=⟨g,off,none⟩∧CX W g (off+i*m) (cells x):=fun i hil=>by
  obtain⟨cs',h1,h2⟩:=hi i (by rw[hmm];simp only[if_true];exact Nat.lt_of_lt_of_le hil hl);rw[hct] at h1;obtain⟨x,hg,rfl⟩:=read h2;obtain⟨_,hlen,h3⟩:=World.cells?_some h1;obtain⟨g,off,spot⟩:=a;cases spot with
  | none =>
   refine⟨x,hg,g,off,rfl,?_⟩;have:=CX.ID (w:=W) (g:=g) (o:=off+i*m) (m:=m) (cs:=(cells x).toList) hm0 hlen (fun j hj=>by have:=h3 j hj;simpa only[add_plain] using this);exact this
  | some s =>
   exfalso;obtain⟨cs',h1,h2⟩:=hi 0 (by rw[hmm];simp only[if_true];exact Nat.lt_of_lt_of_le (Nat.lt_of_le_of_lt (Nat.zero_le _) hil) hl);rw[hct] at h1;obtain⟨x,hg,rfl⟩:=read h2;obtain⟨_,hlen,h3⟩:=World.cells?_some h1;have k0:=h3 0 hm0;rw[Ig _ _ (by simp[Addr.add])] at k0;have hp:0<(cells x).toList.length:=by rw[hlen];exact hm0
   rw[List.getElem?_eq_getElem hp] at k0;cases k0
 obtain⟨B,hB⟩:∃B:Nat→α,∀i,i<len→good (B i) (D i)∧∃g off,a=⟨g,off,none⟩∧CX W g (off+i*m) (cells (B i)):=by
  refine⟨fun i=>if hi:i<len then Classical.choose (one i hi) else default,fun i hi=>?_⟩;simp only[dif_pos hi];exact Classical.choose_spec (one i hi)
 refine⟨some a,(List.range len).map B,cap,by rw[hcs];simp,fun x hx=>?_,fun i x hi=>?_,.inr ⟨_,by rw[hw];exact List.mem_cons_self ..,?_⟩⟩
 · obtain⟨j,hj,rfl⟩:=List.mem_map.1 hx
   refine⟨D j,(hB j (List.mem_range.1 hj)).1,fun k hk=>?_⟩;rw[hw];exact List.mem_cons_of_mem _ (List.mem_append.2 (.inl (IA (List.mem_map_of_mem hj) k hk)))
 · have hil:i<len:=by
    have:=(List.getElem?_eq_some_iff.1 hi).1;simpa using this
   have:x=B i:=by simp[hil] at hi;exact hi.symm
   subst this;obtain⟨_,g,off,h1,h2⟩:=hB i hil;exact⟨g,off,by rw[h1],h2⟩
 rw[List.length_map,List.length_range];exact Nat.mul_le_mul_right _ (Nat.le_add_right _ _)
theorem SZ:Tryz.prog.bytesOf 131=56:=by kernel_rfl
def CE.Fits (x:CE) (d:DataW H):Prop:=(∀k∈d.weights Tryz.prog 32,k≤reachBytes)→x.l.length*56≤140737488351232
theorem QR {n:Nat} {cs:List Value} {y:DataW H×List MemPlace} (h:DataW.trod enc Tryz.prog W base (fun _=>true) true n 32 cs=some y):∃x:CE,(x.Good W∧x.Fits y.1)∧cs=x.cells.toList:=by
 obtain⟨x,hg,hx⟩:=RD h;refine⟨x,⟨hg,fun hw=>?_⟩,hx⟩;obtain⟨xs,m,rfl,rfl,hl,hxl,hf⟩:=DataW.trod_struct Tryz.underlying32 h;rw[Hn] at hl;have hx6:xs.length=6:=hxl;have f4:=hf 4 ⟨ "L",30,4,false, "", "",72⟩ rfl;rw[List.getElem?_eq_getElem (l:=xs) (i:=4) (by omega)] at f4;simp only[L8] at f4;obtain⟨ao,l,cap,e4,_,_,hk⟩:=Np (good:=fun x _=>x.Good W) (m:=3) (by decide) (cells:=Ay.cells) Tryz.underlying30 KC (fun h=>QB h) f4
 have he:l.length=x.l.length:=by
  rw[hx] at e4;simp[CE.cells] at e4;exact e4.2.1.symm
 rw[←he];rcases hk with rfl|⟨k,hk,hle⟩
 · exact Nat.zero_le _
 rw[SZ] at hle
 have h1:=hw k (by
  simp only[DataW.weights,Tryz.underlying32];exact DataW.weights_mem_each (j:=4) (t:=30) (d:=(xs[4]'(by omega)).1) rfl (by rw[List.getElem?_map,List.getElem?_eq_getElem (by omega)];rfl) k hk)
 have h2:reachBytes=140737488351232:=by decide
 omega
theorem PJ:Tryz.prog.bytesOf 32=104:=by kernel_rfl
def NG (W:World) (v:Value):Prop:=∃ao l cap,v=.slice ao (List.length l) cap∧I5 W ao l∧(∀a∈l,a.l.length*56≤140737488351232)∧l.length≤140737488351232
theorem Qb {v:Value} {d:DataW H} {p:List MemPlace} (hv:Value.okWide Tryz.prog W .any base 22 v)
 (h:DataW.Trod enc Tryz.prog W 0 (fun _=>true) true 22 v d p) (hw:∀k∈d.weights Tryz.prog 22,k≤reachBytes):NG W v:=by
 obtain⟨m,hm⟩:=h;obtain⟨ao,l,cap,e,h1,h2,h3⟩:=Np (good:=fun x d=>x.Good W∧x.Fits d) (m:=6) (by decide) (cells:=CE.cells) Tryz.underlying22 Hn (fun h=>QR h) hm;obtain⟨ao',len,cap',rfl⟩:=okWide_slice Tryz.underlying22 hv;simp only[Value.cells,List.cons.injEq,Value.slice.injEq,and_true] at e;obtain⟨rfl,rfl,rfl⟩:=e;refine⟨_,l,_,rfl,⟨fun x hx=>?_,h2⟩,fun x hx=>?_,?_⟩
 · obtain⟨d',hd,_⟩:=h1 x hx
   exact hd.1
 · obtain⟨d',hd,hk⟩:=h1 x hx
   exact hd.2 fun k hk'=>hw k (hk k hk')
 rcases h3 with rfl|⟨k,hk,hle⟩
 · exact Nat.zero_le _
 have:=hw k hk;rw[PJ] at hle;have h2:reachBytes=140737488351232:=by decide
 omega
end
end Go.Proofs.YtngbdbpofifimaaGreat.Law15
namespace Go.Proofs.YtngbdbpofifimaaGreat
open Go.RowKit Go.Proofs.YtngbdbpofifimaaGreat.ShaW Go.Proofs.YtngbdbpofifimaaGreat.Path Go.Proofs.YtngbdbpofifimaaGreat.Store Go.Proofs.YtngbdbpofifimaaGreat.Law9 Go.Deep Go.ChangeShapes Go.WideShapes Go.ChangeAt
def VA (W:World) (v:Value):Prop:=∃ao l cap,v=.slice ao (List.length l) cap∧Fy W ao l∧(∀x∈l,(Lit.int .i64 x).wf=true)∧l.length≤cap∧cap≤maxLen
section
variable {H : Type} {enc : TypeId×Value→H} {W : World} {base : Nat} {v : Value} {d : DataW H} {p : List MemPlace}
theorem Xv (hv:Value.okWide Tryz.prog W .any base 61 v)
 (h:DataW.Trod enc Tryz.prog W 0 (fun _=>true) true 61 v d p):VA W v:=by
 obtain⟨ao,len,cap,rfl⟩:=okWide_slice Tryz.underlying61 hv;obtain⟨m,hm⟩:=h;rcases open_ints Tryz.underlying61 Tryz.underlying3 (by kernel_rfl) hm with⟨h0,_⟩|⟨a,l,c,zs,hcs,hb,hl,hc,hzl,hx,hcell,hwf⟩
 · simp only[Value.cells,List.cons.injEq,Value.slice.injEq,and_true] at h0
   obtain⟨rfl,rfl,rfl⟩:=h0;exact⟨_,[],_,rfl,Fy.nil _ _,(fun x hx=>by cases hx),Nat.le_refl _,by unfold maxLen;omega⟩
 simp only[Value.cells,List.cons.injEq,Value.slice.injEq,and_true] at hcs;obtain⟨rfl,rfl,rfl⟩:=hcs;simp only[if_true] at hzl;refine⟨some a,zs.take len,cap,by simp[hzl,Nat.min_eq_left hl],fun i x hi=>?_,fun x hx=>hwf x (List.mem_of_mem_take hx),by simp[hzl];omega,hc⟩;have hil:i<len:=by have:=(List.getElem?_eq_some_iff.1 hi).1;simp at this;omega
 rw[List.getElem?_take_of_lt hil] at hi;have hlt:i<zs.length:=(List.getElem?_eq_some_iff.1 hi).1;obtain⟨g,off,spot⟩:=a;cases spot with
 | none =>
  refine⟨g,off,rfl,?_⟩;have h1:=hcell i hlt;rw[add_plain] at h1;rw[h1];simp[List.getD,hi]
 | some s =>
  exfalso;have h1:=hcell 0 (by omega);rw[Ig _ _ (by simp[Addr.add])] at h1;cases h1
end
end Go.Proofs.YtngbdbpofifimaaGreat
