/- Laws of the layers below. -/
import Derived.Test.YtooijgcildbnlaaGreatQj40
set_option maxHeartbeats 3200000
set_option maxRecDepth 100000
set_option linter.unusedVariables false
namespace Go.Proofs.YtooijgcildbnlaaGreat.Law15
open Go.RowKit Go.Sort Go.Proofs.YtooijgcildbnlaaGreat.ShaW Go.Proofs.YtooijgcildbnlaaGreat.Path Go.Proofs.YtooijgcildbnlaaGreat.Store Go.Proofs.YtooijgcildbnlaaGreat.BE Go.Proofs.YtooijgcildbnlaaGreat.Law14
structure Ss (w0 w:World) (d v s room:Nat) (σ:AD Nd) (root:Int) (L:AQ) (M:Nmd) (tn:Nat):Prop where
 dct:Dct w0 w d v s (fun _=>False) room σ root L M tn
 few:M.length≤16
theorem Ss.act {w0 w w':World} {d v s room:Nat} {σ:AD Nd} {root:Int} {L:AQ} {M:Nmd} {tn:Nat} (h:Ss w0 w d v s room σ root L M tn) {a:Cu} {e:Ending} (hp:Sl w0 w d v s (fun _=>False) room σ M tn a e w') :
 e=.returned (.tuple #[])∧∃σ' r L' M',Ss w0 w' d v s room σ' r L' M' (tn+60000):=by
 obtain⟨he,σ',r,L',M',hs,hk⟩:=hp;exact⟨he,σ',r,L',M',hs.dct,hk.few h.few⟩
theorem Np {W:World} {ao:Option Addr} {l:List Cu} (cap:Nat) (hl:GX W ao l) (hla:∀a∈l,a.l.length*56≤140737488351232) (hll:l.length≤140737488351232) {key:List UInt8} (hk:key.length=32) :
 Calls Tryz.prog 8 #[.slice ao l.length cap,.agg (AM key)] W fun e w'=>e=.returned (.bool true)∧Adds W w':=by
 obtain⟨K,hK⟩:∃K,K=AM key:=⟨_,rfl⟩
 have hks:K.size=32:=by rw[hK,AN,hk]
 have HK:=(hIq hks (aIq hK hk))
 obtain⟨len,hlen⟩:∃n,n=l.length:=⟨_,rfl⟩
 have HL:=(hIq hl (aIq hla (aIq hll hlen)))
 rw[←hK, ←hlen];clear hks hK hk hl hla hll hlen;go_enter Tryz.func8,Tryz.ntmps8;go_upto_region 1 with fail;refine BQ (fun w0 hw0=>?_);have a0:Adds W w0:=by rw[hw0];exact(Ch.refl _ _).alloc _
 have r0:w0.heap[W.heap.size]?=some (.cells K 24 (0,0)):=by rw[hw0];exact heap_alloc_new _ _
 have A0:=(hIq a0 (aIq r0 (HL.out.1.An a0 (fun _=>fEq))))
 clear a0 r0 hw0;go_wp2_with fail;refine(Tt 40000 w0 (by decide) (by decide)).mono ?_;rintro e w1 ⟨d,v,s,rfl,hd⟩;have HD:=Lib.hid hd;clear hd;go_upto_region 4 with fail;go_wp2_with fail;go_loopg [7] (len+1) (fun g s7 wr=>∃k σ root L M,s7=.int .i64 ((k:Nat):Int)∧k+g=len+1∧k≤len∧k≤30∧Ss w0 wr d v s 40000 σ root L M (60000*k))
 case atStart=>exact⟨0,_,_,_,_,rfl,by omega,by omega,by omega,⟨HD.out,by decide⟩⟩
 obtain⟨k,σ,root,L,M,rfl,hk,hkl,hk20,hbt⟩:=hrel;have HS:=(hIq hbt (aIq hk (aIq hkl hk20)))
 clear hbt hk hkl hk20
 iterate 2 go_step
 go_cut [43] (fun s43 wx=>s43=.bool (decide (k<len∧k<30))∧wx=wr)
 case first =>
  by_cases h1:k<len
  · have h1':(k:Int)<(len:Int):=by omega
    have h1'':decide ((k:Int)<(len:Int))=true:=decide_eq_true h1';by_cases h2:k<30
    · have h2':(k:Int)<30:=by omega
      have h2'':decide ((k:Int)<30)=true:=decide_eq_true h2';have h3:decide (k<len∧k<30)=true:=decide_eq_true ⟨h1,h2⟩;have H3:=Lib.hid h3;clear h3;go_wp2;go_meet;exact⟨by rw[H3.out],rfl⟩
    have h2':¬(k:Int)<30:=by omega
    have h2'':decide ((k:Int)<30)=false:=decide_eq_false h2';have h3:decide (k<len∧k<30)=false:=decide_eq_false (fun h=>h2 h.2);have H3:=Lib.hid h3;clear h3;go_wp2;go_meet;exact⟨by rw[H3.out],rfl⟩
  have h1':¬(k:Int)<(len:Int):=by omega
  have h1'':decide ((k:Int)<(len:Int))=false:=decide_eq_false h1';have h3:decide (k<len∧k<30)=false:=decide_eq_false (fun h=>h1 h.1);have H3:=Lib.hid h3;clear h3;go_wp2;go_meet;exact⟨by rw[H3.out],rfl⟩
 obtain⟨rfl,rfl⟩:=hcut;by_cases hc:k<len∧k<30
 · rw[decide_eq_true hc]
   have hwk:wrap64 ((k:Int)+1)=(k:Int)+1:=by unfold wrap64;omega
   have hx1:(k:Int)<(len:Int):=by omega
   have hx1':k<len:=hc.1;obtain⟨x,hx⟩:∃x,l[k]?=some x:=⟨_,List.getElem?_eq_getElem (by have:=HL.out.2.2.2;omega)⟩
   obtain⟨g0,off,rfl,cur,ty,fr,c1,c2,c3⟩:=A0.out.2.2.row k x hx;have hg:=A0.out.2.2.good x (List.mem_of_getElem? hx);have hdo:=XD HS.out.1.dct hg (HL.out.2.1 x (List.mem_of_getElem? hx)) (by have:=HS.out.2.2.2;omega);obtain⟨C,hC⟩:∃C,C=x.cells:=⟨_,rfl⟩
   have hcs:C.size=6:=by rw[hC];rfl
   rw[←hC] at hdo c2 c3;rw[hcs] at c2 c3;have HC:=(hIq (HS.out.1.dct.world.row c1 id) (aIq c2 (aIq c3 (aIq hcs hdo))))
   clear hx c1 c2 c3 hg hdo hC hcs
   go_wp2_with (first
    | fail
    | ((with_reducible show zOq (.load 80 _));refine AF rfl 80 _ rfl g0 (off+k*6) rfl HC.out.1 Tryz.underlying80 rfl Ql (by have:=HC.out.2.1;omega) C HC.out.2.2.1 ?_))
   refine HC.out.2.2.2.2.mono ?_;rintro e w2 hdp;obtain⟨rfl,σ',r,L',M',hb'⟩:=Ss.act HS.out.1 hdp;have H2:=Lib.hid hb';clear hdp hb';go_wp2_with fail;go_roundg (gk-1)
   case measure=>have:=HS.out.2;omega
   exact⟨k+1,σ',r,L',M',by first|(simp;done)|(simp[hwk];done),by have:=HS.out.2.1;omega,by omega,by omega,by rw[Nat.mul_succ];exact H2.out⟩
 rw[decide_eq_false hc];clear hc;have hnm:=fun w1 (a:Adds wc w1)=>RL (HS.out.1.dct.adds a) (by have:=HS.out.1.few;omega)
 obtain⟨ml,hml⟩:∃ml,ml=M.length:=⟨_,rfl⟩
 have HML:=Lib.hid hml;have hn17:ml≤16:=by rw[hml];exact HS.out.1.few
 have HNM:=Lib.hid hnm;clear hnm hml;go_upto_region 8 with fail;refine BQ (fun w1 hw1=>?_);have a1:Adds wc w1:=by rw[hw1];exact Ch.refl _ _
 have A1:=Lib.hid a1;clear a1 hw1;go_wp2_with fail;refine(HNM.out _ (A1.out.alloc _)).mono ?_;rintro e w2 ⟨q,rfl,hq,a2⟩;rw[←HML.out] at hq;obtain⟨qo,qc,rfl,hro,hlen⟩:=IJ.own hq;have hl2:(FY (ED M)).length=ml:=by rw[IS,FM,HML.out]
 have H2:=(hIq ((A1.out.alloc _).trans a2 (fun _=>fEq)) (aIq (a2.owns (UR w1 []) (fun _ _ h=>h)) (aIq hro (aIq hl2 A1.out.size))))
 clear hq hro hlen hl2 a2
 go_upto_region 9 with(first
  | fail
  | (at_builtin;refine Hp rfl _ _ rfl (.slice (some ⟨w1.heap.size,0,none⟩) 1 1) 1 [[]] rfl H2.out.2.1 qo ml qc (FY (ED M)) rfl H2.out.2.2.1 H2.out.2.2.2.1 (by omega) ?_;intro v' w3 own' grow' loc';have a3:Adds wc w3:=H2.out.1.grown grow' (fun k hk=>.inr (by cases hk;exact H2.out.2.2.2.2));obtain⟨no,nc,rfl⟩:=As own';have H3:=(hIq a3 own');clear own' grow' loc' a3))
 obtain⟨_,_,e1,hro3,_⟩:=IJ.own H3.out.2;injection e1 with e1 _ _;rw[←e1] at hro3;obtain⟨n,hn⟩:∃n,n=1+ml:=⟨_,rfl⟩
 have hnr:Ff w3 no n M:=⟨hro3,by rw[OE, ←HML.out];omega⟩
 have A3:=(hIq (HS.out.1.dct.adds H3.out.1) hnr)
 rw[←hn];have hn17':n≤17:=by omega
 clear hro3 e1 hnr H3 H2 hn hn17;have hpb:=fun w1=>QI w1 HK.out.2.2
 rw[←HK.out.2.1] at hpb;have HPB:=Lib.hid hpb;have rk:=A3.out.1.world.row A0.out.2.1 id;have RK:=Lib.hid rk;clear hpb rk
 go_wp2_with (first
  | fail
  | ((with_reducible show zOq (.load 24 _));refine AF rfl 24 _ rfl W.heap.size 0 rfl RK.out Tryz.underlying24 rfl AW (by rw[HK.out.1];omega) K (by have:=HK.out.1;simp[←this]) ?_))
 refine(HPB.out w3).mono ?_;rintro e w4 ⟨kg,kc,rfl,hkb,hkge,hklt,a4⟩;have A4:=(hIq (A3.out.1.adds a4) (aIq (A3.out.2.adds a4) (aIq hkb (A3.out.1.world.trans a4 (fun _=>fEq)))))
 clear hkb hkge hklt a4;go_upto_region 10 with fail;go_wp2_with fail;go_loopg [10,11,12,13,14,15,16,17,18,19,20,21,22,23] n (fun g s10 s11 s12 s13 s14 s15 s16 s17 s18 s19 s20 s21 s22 s23 wr=>∃k:Nat,s10=.int .i64 (k:Nat)∧k+g=n∧Adds w4 wr)
 case atStart=>exact⟨0,rfl,by omega,Ch.refl _ _⟩
 obtain⟨k2,rfl,hk2,hA⟩:=hrel;have HT:=(hIq hA hk2)
 by_cases hkn:k2<n
 · have h1:decide ((k2:Int)<(n:Int))=true:=decide_eq_true (by omega)
   have h2:(k2:Int)<(n:Int):=by omega
   obtain⟨g0,off,x,rfl,hx,hmem,hc⟩:=A4.out.2.1.cell hkn;have hwk:wrap64 ((k2:Int)+1)=(k2:Int)+1:=by unfold wrap64;omega
   obtain⟨S,hS⟩:∃S,S=BS x:=⟨_,rfl⟩
   have hcw:∀w1,Adds wr w1→w1.cell? ⟨g0,off+k2,none⟩=some (.string S):=fun w1 a=>by rw[hS];exact a.cell (hA.cell hc id) id
   obtain⟨LX,hLX⟩:∃LX,LX=D2 L M x:=⟨_,rfl⟩
   have hkb:=A4.out.2.2.1;have hwy:=Db.way (A4.out.1.name hmem) HK.out.2.2
   have hnxb:(D2 L M x).length≤65536:=by
    obtain⟨F,hF⟩:=A4.out.1.at;have D:=A4.out.1.name hmem;have h5:=(C8 hF D.good D.rep).2;rw[Db.leaves D] at h5;omega
   have HNXB:=Lib.hid hnxb;clear hnxb;have hpr:=fun w1 (a:Adds wr w1)=>R9 (A4.out.1.adds (hA.trans a (fun _=>fEq))) hmem (hkb.An (hA.trans a (fun _=>fEq)) (fun _ _ h=>h)) HK.out.2.2
   have hrt:=fun w1 (a:Adds wr w1)=>Rb (A4.out.1.adds (hA.trans a (fun _=>fEq))) hmem
   have hgt:=fun w1 (a:Adds wr w1)=>TW (A4.out.1.adds (hA.trans a (fun _=>fEq))) hmem (hkb.An (hA.trans a (fun _=>fEq)) (fun _ _ h=>h)) HK.out.2.2
   have hle:=fun w1 (a:Adds wr w1)=>TM (A4.out.1.adds (hA.trans a (fun _=>fEq))) hmem
   rw[←hS] at hpr hrt hgt hle;rw[←hLX] at hpr hrt hgt hle hwy HNXB;obtain⟨T,hT⟩:∃T,T=tree 256 LX:=⟨_,rfl⟩
   rw[←hT] at hpr hrt hwy;obtain⟨st,hst⟩:∃st,st=T.stop key 0:=⟨_,rfl⟩
   obtain⟨sd,hsd⟩:∃sd,sd=T.sides key 0:=⟨_,rfl⟩
   obtain⟨q1,q2,q3,q4,q5,q6,q7,q8,q9⟩:=hwy;rw[←hst] at q3 q4 q5 q6 q7;rw[←hsd] at q1 q2 q5 q6 q8;obtain⟨hNs,hN1⟩:=DT q3 q4;obtain⟨N,hN⟩:∃N,N=EC st:=⟨_,rfl⟩
   obtain⟨R1,hR1⟩:∃R1,R1=AM T.dig:=⟨_,rfl⟩
   have hRs:R1.size=32:=by rw[hR1,AN,Tr.Ee]
   rw[←hR1] at hrt
   have hpr2:∀w1,Adds wr w1→Calls Tryz.prog 55 #[.pointer (some ⟨d,0,none⟩),.string S,.slice (some ⟨kg,0,none⟩) 32 kc] w1 fun e w'=>∃v,e=.returned (.tuple #[.agg (Aj v N),.int .i64 0])∧DK w' v sd∧v.oneCell'=true∧Adds w1 w':=fun w1 a=>by
    refine(hpr w1 a).mono ?_;rintro e w' ⟨v,rfl,hr,ha⟩;rw[←hst, ←hN];rw[←hsd] at hr;refine⟨v,rfl,IL.at hr q2,?_,ha⟩;obtain⟨_,_,e⟩:=Cf.form hr;rw[e];rfl
   have hho:∀(w1:World) v,DK w1 v sd→Calls Tryz.prog 56 #[.agg R1,.agg K,.agg (Aj v N)] w1 fun e w'=>e=.returned (.tuple #[.bool true,.int .i64 0])∧Adds w1 w':=fun w1 v hv=>by
    have h5:=SD (w:=w1) (key:=key) HK.out.2.2 hv q1 q3 q4 q6;rw[q5, ←hR1, ←HK.out.2.1, ←hN] at h5;exact h5
   have hsa:∀(w1:World) v,Calls Tryz.prog 57 #[.agg K,.agg (Aj v N)] w1 (OP w1 st key):=fun w1 v=>by
    have h5:=U1 (v:=v) (key:=key) HK.out.2.2 q3 q4 w1;rw[←HK.out.2.1, ←hN] at h5;exact h5
   have hsh:∀(w1:World) v,DK w1 v sd→Calls Tryz.prog 59 #[.agg (Aj v N)] w1 fun e w'=>e=.returned (.int .i64 ((D8 sd:Nat):Int))∧Adds w1 w':=fun w1 v hv=>by
    have h5:=Sm hv q1 hNs;rw[←hN] at h5;exact h5
   have HX:=(hIq hpr2 (aIq hrt (aIq hgt (aIq hle (aIq hcw (aIq hho (aIq hsa hsh)))))))
   have HY:=(hIq (hN▸hNs:N.size=129) (aIq (hN▸hN1:∀u∈N.toList,u.oneCell'=true) (aIq hRs (aIq (show ∀v∈R1.toList,v.oneCell'=true by rw[hR1];exact Ah _) (aIq q7 (aIq q8 q9))))))
   have c0:=hcw wr (Ch.refl _ _);obtain⟨Y,hY⟩:∃Y,Y=GW:=⟨_,rfl⟩
   have hyf:=C7;have hYs:Y.size=130:=by rw[hY];exact Ae rfl
   rw[←hY] at hyf;have HP:=(hIq hyf hYs)
   clear hk2 hA hx hmem hc hS hLX hkb hpr hrt hgt hle hT hst hsd q1 q2 q3 q4 q5 q6 q7 q8 q9 hNs hN1 hN hR1 hRs hpr2 hho hsa hsh hcw hY hyf hYs;go_wp2_with fail;refine(HX.out.1 wr (Ch.refl _ _)).mono ?_;rintro e w5 ⟨pv,rfl,hpv,hpv1,a5⟩;have H5:=(hIq a5 (aIq hpv hpv1))
   clear a5 hpv hpv1 c0
   go_upto_region 14 with(first
    | fail
    | ((with_reducible show zOq (.alloc 117));refine AI rfl 117 rfl (.agg Y) HP.out.1.1 ?_;dsimp only[Value.cells];try simp only[World.size_alloc])
    | ((with_reducible show zOq (.store 117 _ _));refine AE rfl 117 _ _ rfl w5.heap.size 0 (Aj pv N) rfl rfl (heap_alloc_new _ _) (by rw[HP.out.1.2.1,Ae HY.out.1]) (by rw[Ae HY.out.1,HP.out.2];omega) (Du H5.out.2.2 HY.out.2.1) (Aj pv N) (by rw[AK _ _ (by rw[Array.length_toList,Array.length_toList,Ae HY.out.1,HP.out.2])]) ?_))
   refine BQ (fun w6 hw6=>?_);have a6:Adds w5 w6:=by rw[hw6];exact((Ch.refl _ _).alloc _).setRow (.inr (Nat.le_refl _)) _
   have r6:w6.heap[w5.heap.size]?=some (.cells (Aj pv N) 117 (0,0)):=by rw[hw6];exact AG (heap_alloc_new w5 (.cells Y 117)) (Aj pv N)
   obtain⟨PB,hPB⟩:∃PB,PB=w5.heap.size:=⟨_,rfl⟩
   rw[←hPB] at r6 ⊢;have H6:=(hIq (H5.out.1.trans a6 (fun _=>fEq)) (aIq r6 (H5.out.2.1.adds a6)))
   have c6:=HX.out.2.2.2.2.1 w6 H6.out.1;clear a6 r6 hw6 hPB;go_wp2_with fail;refine(HX.out.2.1 w6 H6.out.1).mono ?_;rintro e w7 ⟨rfl,a7⟩;have H7:=(hIq (H6.out.1.trans a7 (fun _=>fEq)) a7)
   clear a7 c6
   go_upto_region 15 with(first
    | fail
    | ((with_reducible show zOq (.alloc 85));refine AI rfl 85 rfl (.agg (AM (List.replicate 32 0))) Hs ?_;dsimp only[Value.cells];try simp only[World.size_alloc])
    | ((with_reducible show zOq (.store 85 _ _));refine AE rfl 85 _ _ rfl w7.heap.size 0 R1 rfl rfl (heap_alloc_new _ _) (by rw[BI,HY.out.2.2.1]) (by rw[HY.out.2.2.1];exact Nat.le_of_eq (Nat.zero_add _)) HY.out.2.2.2.1 R1 (by rw[AK _ _ (by rw[Array.length_toList,Array.length_toList,HY.out.2.2.1];rfl)]) ?_))
   refine BQ (fun w8 hw8=>?_);have a8:Adds w7 w8:=by rw[hw8];exact((Ch.refl _ _).alloc _).setRow (.inr (Nat.le_refl _)) _
   have r8:w8.heap[w7.heap.size]?=some (.cells R1 85 (0,0)):=by rw[hw8];exact AG (heap_alloc_new w7 (.cells (AM (List.replicate 32 0)) 85)) R1
   obtain⟨RB,hRB⟩:∃RB,RB=w7.heap.size:=⟨_,rfl⟩
   rw[←hRB] at r8 ⊢;have H8:=(hIq (H7.out.1.trans a8 (fun _=>fEq)) (aIq ((H7.out.2.trans a8 (fun _=>fEq)).row H6.out.2.1 id) (aIq (H6.out.2.2.adds (H7.out.2.trans a8 (fun _=>fEq))) r8)))
   have c8:=HX.out.2.2.2.2.1 w8 H8.out.1;clear a8 r8 hw8 hRB;go_wp2_with fail;refine(HX.out.2.2.1 w8 H8.out.1).mono ?_;rintro e w9 ⟨a9,hget⟩
   obtain⟨gv,is,rfl,hgv⟩:∃gv is,e=.returned (.tuple #[gv,.bool is,.int .i64 0])∧((is=false∧gv=.slice none 0 0∧key∉keysOf LX)∨(is=true∧∃bs,(key,bs)∈LX∧Bytes w9 gv bs∧∀k,gv.ownBlock=some k→k<w9.heap.size)):=by
    rcases hget with⟨h5,rfl⟩|⟨bs,gv,h5,rfl,h6,h7⟩
    · exact⟨_,_,rfl,.inl ⟨rfl,rfl,h5⟩⟩
    exact⟨_,_,rfl,.inr ⟨rfl,bs,h5,h6,fun k hk=>(h7 k hk).2⟩⟩
   have H9:=(hIq (H8.out.1.trans a9 (fun _=>fEq)) (aIq (a9.row H8.out.2.1 id) (aIq (H8.out.2.2.1.adds a9) (aIq (a9.row H8.out.2.2.2 id) hgv))))
   have c9:=HX.out.2.2.2.2.1 w9 H9.out.1;clear a9 hget hgv c8;go_wp2_with fail;refine(HX.out.2.2.2.1 w9 H9.out.1).mono ?_;rintro e w10 ⟨rfl,a10⟩;obtain⟨nx,hnx⟩:∃nx,nx=LX.length:=⟨_,rfl⟩
   rw[←hnx];have H10:=(hIq (H9.out.1.trans a10 (fun _=>fEq)) (aIq (a10.row H9.out.2.1 id) (aIq (H9.out.2.2.1.adds a10) (aIq (a10.row H9.out.2.2.2.1 id) (aIq a10 hnx)))))
   have rk10:w10.heap[W.heap.size]?=some (.cells K 24 (0,0)):=((A4.out.2.2.2.trans HT.out.1 (fun _=>fEq)).trans H10.out.1 (fun _=>fEq)).row A0.out.2.1 id;have RK10:=Lib.hid rk10;clear a10 c9 hnx rk10
   go_wp2_with (first
    | fail
    | ((with_reducible show zOq (.load 85 _));refine AF rfl 85 _ rfl RB 0 rfl H10.out.2.2.2.1 Tryz.underlying85 rfl BI (by rw[HY.out.2.2.1];omega) R1 (by have:=HY.out.2.2.1;simp[←this]) ?_)
    | ((with_reducible show zOq (.load 24 _));refine AF rfl 24 _ rfl W.heap.size 0 rfl RK10.out Tryz.underlying24 rfl AW (by rw[HK.out.1];omega) K (by have:=HK.out.1;simp[←this]) ?_)
    | ((with_reducible show zOq (.load 117 _));refine AF rfl 117 _ rfl PB 0 rfl H10.out.2.1 Tryz.underlying117 rfl HP.out.1.2.1 (by rw[Ae HY.out.1];omega) (Aj pv N) (by have:=Ae (v:=pv) HY.out.1;simp[←this]) ?_))
   refine(HX.out.2.2.2.2.2.1 w10 pv H10.out.2.2.1).mono ?_;rintro e w11 ⟨rfl,a11⟩;have H11:=(hIq (H10.out.1.trans a11 (fun _=>fEq)) (aIq (a11.row H10.out.2.1 id) (aIq (H10.out.2.2.1.adds a11) (aIq (a11.row RK10.out id) (H10.out.2.2.2.2.1.trans a11 (fun _=>fEq))))))
   clear a11
   go_wp2_with (first
    | fail
    | ((with_reducible show zOq (.load 24 _));refine AF rfl 24 _ rfl W.heap.size 0 rfl H11.out.2.2.2.1 Tryz.underlying24 rfl AW (by rw[HK.out.1];omega) K (by have:=HK.out.1;simp[←this]) ?_)
    | ((with_reducible show zOq (.load 117 _));refine AF rfl 117 _ rfl PB 0 rfl H11.out.2.1 Tryz.underlying117 rfl HP.out.1.2.1 (by rw[Ae HY.out.1];omega) (Aj pv N) (by have:=Ae (v:=pv) HY.out.1;simp[←this]) ?_))
   refine(HX.out.2.2.2.2.2.2.1 w11 pv).mono ?_;rintro e w12 ⟨is2,Hh,rfl,hhl,a12,hsays⟩;obtain⟨R2,hR2⟩:∃R2,R2=AM Hh:=⟨_,rfl⟩
   rw[←hR2];have H12:=(hIq (H11.out.1.trans a12 (fun _=>fEq)) (aIq (a12.row H11.out.2.1 id) (aIq (H11.out.2.2.1.adds a12) (aIq (H11.out.2.2.2.2.trans a12 (fun _=>fEq)) (aIq hhl (aIq hsays (aIq hR2 (aIq (show R2.size=32 by rw[hR2,AN,hhl]) (show ∀v∈R2.toList,v.oneCell'=true by rw[hR2];exact Ah _)))))))))
   clear a12 hhl hsays hR2
   go_upto_region 19 with(first
    | fail
    | ((with_reducible show zOq (.alloc 85));refine AI rfl 85 rfl (.agg (AM (List.replicate 32 0))) Hs ?_;dsimp only[Value.cells];try simp only[World.size_alloc])
    | ((with_reducible show zOq (.store 85 _ _));refine AE rfl 85 _ _ rfl w12.heap.size 0 R2 rfl rfl (heap_alloc_new _ _) (by rw[BI,H12.out.2.2.2.2.2.2.2.1]) (by rw[H12.out.2.2.2.2.2.2.2.1];exact Nat.le_of_eq (Nat.zero_add _)) H12.out.2.2.2.2.2.2.2.2 R2 (by rw[AK _ _ (by rw[Array.length_toList,Array.length_toList,H12.out.2.2.2.2.2.2.2.1];rfl)]) ?_))
   refine BQ (fun w13 hw13=>?_);have a13:Adds w12 w13:=by rw[hw13];exact((Ch.refl _ _).alloc _).setRow (.inr (Nat.le_refl _)) _
   have r13:w13.heap[w12.heap.size]?=some (.cells R2 85 (0,0)):=by rw[hw13];exact AG (heap_alloc_new w12 (.cells (AM (List.replicate 32 0)) 85)) R2
   obtain⟨HB,hHB⟩:∃HB,HB=w12.heap.size:=⟨_,rfl⟩
   rw[←hHB] at r13 ⊢;have H13:=(hIq (H12.out.1.trans a13 (fun _=>fEq)) (aIq (a13.row H12.out.2.1 id) (aIq (H12.out.2.2.1.adds a13) (aIq (H12.out.2.2.2.1.trans a13 (fun _=>fEq)) r13))))
   clear a13 r13 hw13 hHB;have hwn:wrap64 ((nx:Int)-1)=(nx:Int)-1:=by have:=HNXB.out;have:=H10.out.2.2.2.2.2;unfold wrap64;omega
   obtain⟨sh,hsh⟩:∃sh,sh=D8 sd:=⟨_,rfl⟩
   have hgt:decide (max (0:Int) ((nx:Int)-1)<(sh:Int))=false:=decide_eq_false (by have:=HY.out.2.2.2.2.2.1;rw[←H10.out.2.2.2.2.2, ←hsh] at this;omega);rw[←hsh] at HX;clear hsh;rcases H9.out.2.2.2.2 with⟨rfl,rfl,hno⟩|⟨rfl,bs,hbm,hgb,hgk⟩
   · have hc2:is2=false∧R2=AM (List.replicate 32 0):=by
      rcases H12.out.2.2.2.2.2.1 with⟨_,b,hb,_⟩|⟨h5,h6,_⟩
      · exact absurd (List.mem_map_of_mem (f:=Prod.fst) ((HY.out.2.2.2.2.1 b).1 hb)) hno
      exact⟨h5,by rw[H12.out.2.2.2.2.2.2.1,h6]⟩
     obtain⟨rfl,hr2⟩:=hc2;have hzb:Tryz.prog.built 85 []=some R2:=by rw[hr2];kernel_rfl
     have hneq:=fun w=>ID 85 Tryz.underlying85 (List.replicate 32 0) (List.replicate 32 0) (by simp) (by simp) w
     simp only[←hr2,decide_true,Bool.not_true] at hneq;have HR2:=Lib.hid hr2;have HR2:=Lib.hid hr2;clear hno hr2 hzb;refine AO (fun w0=>w0.heap[HB]?=some (.cells R2 85 (0,0))∧w0.heap[PB]?=some (.cells (Aj pv N) 117 (0,0))) 53 [(0,false),(1,false),(2,false),(3,false),(4,false),(5,false),(6,false),(7,false),(8,false),(9,false),(10,false),(11,false),(12,false),(13,false),(14,false),(15,false),(16,false),(17,false),(18,false),(19,false),(20,false),(21,false),(22,false),(23,false),(24,false),(25,false),(26,false),(27,false),(28,false),(29,false),(30,false),(31,false),(32,false),(33,false),(34,false),(35,false),(36,false),(37,false),(38,false),(39,false),(40,false),(41,false),(42,false),(43,false),(44,false),(45,false),(46,false),(48,false),(49,false),(50,false),(47,true),(51,false),(52,false)] (by kernel_rfl) (by kernel_rfl) ?_ ?_
     · exact⟨AP H13.out.2.2.2.2,AP H13.out.2.1⟩
     iterate 30
      iterate 1 refine plan_look rfl rfl (fun w0 hS=>(by go_simp;try rfl)) ?_
      simp only[Act.put,nAq,nBq,nCq]
     refine BU rfl rfl ?_;simp only[Act.put,nAq,nBq,nCq];refine BU rfl rfl ?_;simp only[Act.put,nAq,nBq,nCq];refine BU rfl rfl ?_;simp only[Act.put,nAq,nBq,nCq];refine BU rfl rfl ?_;simp only[Act.put,nAq,nBq,nCq]
     iterate 6
      iterate 1 refine plan_look rfl rfl (fun w0 hS=>(by go_simp;try rfl)) ?_
      simp only[Act.put,nAq,nBq,nCq]
     refine BE.BP (cur:=R2) (t:=85) (fr:=(0,0)) rfl rfl 85 _ rfl HB 0 32 rfl (fun w0 hS=>hS.1) Tryz.underlying85 rfl BI (by rw[H12.out.2.2.2.2.2.2.2.1];exact Nat.le_refl _) R2 (by have:=H12.out.2.2.2.2.2.2.2.1;simp[←this]) ?_;simp only[Act.put,nAq,nBq,nCq];refine plan_look (v:=.agg R2) rfl rfl (fun w0 hS=>(by clear hS;go_simp;first|rfl|(rw[HR2.out];rfl))) ?_;simp only[Act.put,nAq,nBq,nCq];refine plan_look (v:=.bool false) rfl rfl (fun w0 hS=>(by have:=hneq w0;clear hS;go_simp;try rfl)) ?_;simp only[Act.put,nAq,nBq,nCq]
     iterate 3
      iterate 1 refine plan_look rfl rfl (fun w0 hS=>(by go_simp;try rfl)) ?_
      simp only[Act.put,nAq,nBq,nCq]
     refine BE.BP (cur:=Aj pv N) (t:=117) (fr:=(0,0)) rfl rfl 117 _ rfl PB 0 130 rfl (fun w0 hS=>hS.2) Tryz.underlying117 rfl HP.out.1.2.1 (by rw[Ae HY.out.1];exact Nat.le_refl _) (Aj pv N) (by have:=Ae (v:=pv) HY.out.1;simp[←this]) ?_;simp only[Act.put,nAq,nBq,nCq]
     iterate 1
      iterate 1 refine plan_look rfl rfl (fun w0 hS=>(by go_simp;try rfl)) ?_
      simp only[Act.put,nAq,nBq,nCq]
     refine plan_look (v:=.int .i64 ((nx:Int)-1)) rfl rfl (fun w0 hS=>(by clear hS;go_simp;first|done|rfl|exact IntWalk.i64_in _ (by have:=HNXB.out;have:=H10.out.2.2.2.2.2;omega))) ?_;simp only[Act.put,nAq,nBq,nCq];refine plan_look (v:=.int .i64 (max 0 ((nx:Int)-1))) rfl rfl (fun w0 hS=>(by clear hS;go_simp;try rfl)) ?_;simp only[Act.put,nAq,nBq,nCq];refine Aa rfl ?_;go_wp2_with fail;refine(HX.out.2.2.2.2.2.2.2 _ pv (DK.adds H13.out.2.2.1 (Ch.refl _ _).drew)).mono ?_;rintro e w15 ⟨rfl,a15⟩;have a15':=((Ch.refl _ _).drew:Adds w13 _).trans a15 (fun _=>fEq);have H15:=(hIq a15' (aIq (a15'.row H13.out.2.2.2.2 id) (a15'.row H13.out.2.1 id)))
     clear a15 a15';dsimp only;go_step;refine wpList_nil ?_;change _∧_;refine⟨⟨H15.out.2.1,H15.out.2.2⟩,?_⟩;refine plan_look (v:=.bool false) rfl rfl (fun w0 hS=>(by clear hS;go_simp;try rfl)) ?_;simp only[Act.put,nAq,nBq,nCq]
     iterate 1 refine plan_look rfl rfl (fun w0 hS=>(by go_simp;try rfl)) ?_
     simp only[Act.put,nAq,nBq,nCq];refine Ad ?_;simp only[List.drop_succ_cons,List.drop_zero];go_wp2;refine NoPanic.normal ?_;go_wp2;go_roundg (n-(k2+1))
     case measure=>have:=HT.out.2;omega
     exact⟨k2+1,by first|(simp;done)|(simp[hwk];done),by omega,HT.out.1.trans (H13.out.1.trans H15.out.1 (fun _=>fEq)) (fun _=>fEq)⟩
   obtain⟨go,gc,rfl,_,_⟩:=hgb.form
   have hc2:is2=true∧R2=AM (Tag.Aw bs):=by
    have hst:=(HY.out.2.2.2.2.1 bs).2 hbm;rcases H12.out.2.2.2.2.2.1 with⟨h5,b,hb,h6⟩|⟨_,_,h6⟩
    · rw[hst] at hb
      injection hb with _ hb;exact⟨h5,by rw[H12.out.2.2.2.2.2.2.1,h6,hb]⟩
    exact absurd hst (h6 bs)
   obtain⟨rfl,hr2⟩:=hc2;have hvl:(Tag.Aw bs).length=32:=Tag.AV _ _;have hneq:=fun w=>ID 85 Tryz.underlying85 (Tag.Aw bs) (Tag.Aw bs) hvl hvl w
   simp only[←hr2,decide_true,Bool.not_true] at hneq;have h913:Adds w9 w13:=H13.out.2.2.2.1;have hval:=Tag.Ef (w:=w13.drew) (hgb.An h913.drew (fun _ _ h=>h)) (fun _ k hk=>Nat.lt_of_lt_of_le (hgk k hk) h913.drew.size) (by have:=HY.out.2.2.2.2.2.2 bs hbm;omega);rw[←hr2] at hval;obtain⟨bl,hbl⟩:∃bl,bl=bs.length:=⟨_,rfl⟩
   rw[←hbl] at hval ⊢;have HV:=Lib.hid hval;clear hbm hgb hgk hr2 hvl h913 hval hbl;refine AO (fun w0=>w0.heap[HB]?=some (.cells R2 85 (0,0))∧w0.heap[PB]?=some (.cells (Aj pv N) 117 (0,0))) 53 [(0,false),(1,false),(2,false),(3,false),(4,false),(5,false),(6,false),(7,false),(8,false),(9,false),(10,false),(11,false),(12,false),(13,false),(14,false),(15,false),(16,false),(17,false),(18,false),(19,false),(20,false),(21,false),(22,false),(23,false),(24,false),(25,false),(26,false),(27,false),(28,false),(29,false),(30,false),(31,false),(32,true),(33,false),(34,false),(35,false),(36,false),(37,false),(38,false),(39,false),(40,false),(41,false),(42,false),(43,false),(44,false),(45,false),(46,false),(48,false),(49,false),(50,false),(47,true),(51,false),(52,false)] (by kernel_rfl) (by kernel_rfl) ?_ ?_
   · exact⟨AP H13.out.2.2.2.2,AP H13.out.2.1⟩
   iterate 30
    iterate 1 refine plan_look rfl rfl (fun w0 hS=>(by go_simp;try rfl)) ?_
    simp only[Act.put,nAq,nBq,nCq]
   refine BE.BP (cur:=R2) (t:=85) (fr:=(0,0)) rfl rfl 85 _ rfl HB 0 32 rfl (fun w0 hS=>hS.1) Tryz.underlying85 rfl BI (by rw[H12.out.2.2.2.2.2.2.2.1];exact Nat.le_refl _) R2 (by have:=H12.out.2.2.2.2.2.2.2.1;simp[←this]) ?_;simp only[Act.put,nAq,nBq,nCq];refine plan_look rfl rfl (fun w0 hS=>(by clear hS;go_simp;try rfl)) ?_;simp only[Act.put,nAq,nBq,nCq];refine Aa rfl ?_;go_wp2_with fail;refine HV.out.mono ?_;rintro e w14 ⟨rfl,a14⟩;have a14':Adds w13 w14:=(Ch.refl _ _).drew.trans a14 (fun _=>fEq);have H14:=(hIq a14' (aIq (a14'.row H13.out.2.2.2.2 id) (a14'.row H13.out.2.1 id)))
   clear a14 a14';dsimp only;go_step;refine wpList_nil ?_;change _∧_;refine⟨⟨H14.out.2.1,H14.out.2.2⟩,?_⟩;refine plan_look (v:=.bool false) rfl rfl (fun w0 hS=>(by have:=hneq w0;clear hS;go_simp;try rfl)) ?_;simp only[Act.put,nAq,nBq,nCq]
   iterate 6
    iterate 1 refine plan_look rfl rfl (fun w0 hS=>(by go_simp;try rfl)) ?_
    simp only[Act.put,nAq,nBq,nCq]
   refine BU rfl rfl ?_;simp only[Act.put,nAq,nBq,nCq];refine BU rfl rfl ?_;simp only[Act.put,nAq,nBq,nCq];refine BU rfl rfl ?_;simp only[Act.put,nAq,nBq,nCq]
   iterate 3
    iterate 1 refine plan_look rfl rfl (fun w0 hS=>(by go_simp;try rfl)) ?_
    simp only[Act.put,nAq,nBq,nCq]
   refine BE.BP (cur:=Aj pv N) (t:=117) (fr:=(0,0)) rfl rfl 117 _ rfl PB 0 130 rfl (fun w0 hS=>hS.2) Tryz.underlying117 rfl HP.out.1.2.1 (by rw[Ae HY.out.1];exact Nat.le_refl _) (Aj pv N) (by have:=Ae (v:=pv) HY.out.1;simp[←this]) ?_;simp only[Act.put,nAq,nBq,nCq]
   iterate 1
    iterate 1 refine plan_look rfl rfl (fun w0 hS=>(by go_simp;try rfl)) ?_
    simp only[Act.put,nAq,nBq,nCq]
   refine plan_look (v:=.int .i64 ((nx:Int)-1)) rfl rfl (fun w0 hS=>(by clear hS;go_simp;first|done|rfl|exact IntWalk.i64_in _ (by have:=HNXB.out;have:=H10.out.2.2.2.2.2;omega))) ?_;simp only[Act.put,nAq,nBq,nCq];refine plan_look (v:=.int .i64 (max 0 ((nx:Int)-1))) rfl rfl (fun w0 hS=>(by clear hS;go_simp;try rfl)) ?_;simp only[Act.put,nAq,nBq,nCq];refine Aa rfl ?_;go_wp2_with fail;refine(HX.out.2.2.2.2.2.2.2 _ pv (DK.adds H13.out.2.2.1 H14.out.1)).mono ?_;rintro e w15 ⟨rfl,a15⟩;have a15':=(H14.out.1:Adds w13 _).trans a15 (fun _=>fEq);have H15:=(hIq a15' (aIq (a15'.row H13.out.2.2.2.2 id) (a15'.row H13.out.2.1 id)))
   clear a15 a15';dsimp only;go_step;refine wpList_nil ?_;change _∧_;refine⟨⟨H15.out.2.1,H15.out.2.2⟩,?_⟩;refine plan_look (v:=.bool false) rfl rfl (fun w0 hS=>(by clear hS;go_simp;try rfl)) ?_;simp only[Act.put,nAq,nBq,nCq]
   iterate 1 refine plan_look rfl rfl (fun w0 hS=>(by go_simp;try rfl)) ?_
   simp only[Act.put,nAq,nBq,nCq];refine Ad ?_;simp only[List.drop_succ_cons,List.drop_zero];go_wp2;refine NoPanic.normal ?_;go_wp2;go_roundg (n-(k2+1))
   case measure=>have:=HT.out.2;omega
   exact⟨k2+1,by first|(simp;done)|(simp[hwk];done),by omega,HT.out.1.trans (H13.out.1.trans H15.out.1 (fun _=>fEq)) (fun _=>fEq)⟩
 obtain rfl:k2=n:=by omega
 have h1:decide ((k2:Int)<(k2:Int))=false:=decide_eq_false (by omega);have h2:¬(k2:Int)<(k2:Int):=by omega
 clear hk2 hA;obtain⟨Y,hY⟩:∃Y,Y=GW:=⟨_,rfl⟩
 have hyf:=C7;have hYs:Y.size=130:=by rw[hY];exact Ae rfl
 have hY1:∀v∈Y.toList,v.oneCell'=true:=by rw[hY];exact Du rfl Gz
 have hpz:=fun w1 S K=>U8 (w:=w1) (v:=.pointer none) (.inl rfl) S K
 rw[←hY] at hyf hpz;have HP:=(hIq hyf (aIq hYs (aIq hY1 hpz)))
 clear hyf hYs hY1 hpz hY;go_wp2_with fail;refine(HP.out.2.2.2 _ _ _).mono ?_;rintro e w5 ⟨rfl,a5⟩;have H5:=Lib.hid (HT.out.1.trans a5 (fun _=>fEq));clear a5
 go_wp2_with (first
  | fail
  | ((with_reducible show zOq (.alloc 117));refine AI rfl 117 rfl (.agg Y) HP.out.1.1 ?_;dsimp only[Value.cells];try simp only[World.size_alloc])
  | ((with_reducible show zOq (.store 117 _ _));refine AE rfl 117 _ _ rfl w5.heap.size 0 Y rfl rfl (heap_alloc_new _ _) (by rw[HP.out.1.2.1,HP.out.2.1]) (by rw[HP.out.2.1];omega) HP.out.2.2.1 Y (by rw[AK _ _ rfl]) ?_))
 go_ret;exact⟨rfl,A0.out.1.trans (A4.out.2.2.2.trans ((H5.out.alloc _).setRow (.inr (by have:=H5.out.size;omega)) _) (fun _=>fEq)) (fun _=>fEq)⟩
end Go.Proofs.YtooijgcildbnlaaGreat.Law15
