/- Laws of the layers below. -/
import Derived.Test.YtngbdbpofifimaaGreatQl47
set_option maxHeartbeats 3200000
set_option maxRecDepth 100000
set_option linter.unusedVariables false
namespace Go.Proofs.YtngbdbpofifimaaGreat.Law15
open Go.RowKit Go.Sort Go.Proofs.YtngbdbpofifimaaGreat.ShaW Go.Proofs.YtngbdbpofifimaaGreat.Path Go.Proofs.YtngbdbpofifimaaGreat.Store Go.Proofs.YtngbdbpofifimaaGreat.Law9 Go.Proofs.YtngbdbpofifimaaGreat.Law14
theorem RN (k:Nat):madeCells #[Value.int .u8 0] k=AK (List.replicate k 0):=by
 apply Array.ext
 · rw[size_madeCells,AN,List.length_replicate]
 intro i h1 h2;rw[size_madeCells] at h1;have e1:(AK (List.replicate k 0))[i]=bv 0:=by simp[AK]
 rw[e1];simp only[madeCells,Array.getElem_map,Array.getElem_range];rw[show #[Value.int .u8 0].size=1 from rfl,Nat.mod_one];rfl
theorem Vw (l:List UInt8) (i:Nat) (y:UInt8):(AK l).setIfInBounds i (bv y)=AK (l.set i y):=by
 apply Array.ext';simp[AK,List.map_set]
theorem Sz (k:Nat):(128:Int) / 2 ^ (k % 8)=((bitU k).toNat:Int):=by
 have h:k % 8<8:=Nat.mod_lt _ (by decide);unfold bitU;generalize k % 8=j at h;have h8:j=0∨j=1∨j=2∨j=3∨j=4∨j=5∨j=6∨j=7:=by omega
 rcases h8 with rfl|rfl|rfl|rfl|rfl|rfl|rfl|rfl<;>rfl
theorem Vm {w w':World} {b:Option Nat} {g:Nat} {o:Obj} (h:w.grownBy w' b) (hg:w.heap[g]?=some o) (hn:¬b=some g):w'.heap[g]?=some o:=by
 have c:Ch (fun j=>b=some j) w w':=(Ch.refl _ _).grown h (fun k hk=>.inl hk);exact c.row hg hn
structure Yn (w6 wr:World) (bb g0:Nat) (S:List (List UInt8)) (k nl:Nat) (xs:List UInt8) (s8:Value):Prop where
 row:wr.heap[bb]?=some (.cells (AK (EE S k)) 5 (0,0))
 own:wr.ownsRow g0 5 1 s8 nl (xs.map bv)
 sides:xs=Hi S k
 len:nl=xs.length
 blk:∀j,s8.ownBlock=some j→j=g0∨w6.heap.size≤j
 ch:Ch (fun j=>j=bb∨j=g0) w6 wr
def Uz (w:World) (bs:List UInt8) (e:Ending) (w':World):Prop:=∃q,e=.returned (.tuple #[q,.int .i64 0])∧w'.ownsRow w.heap.size 5 1 q bs.length (bs.map bv)∧Adds w w'
theorem ML {t:Tr} (ht:t.isNode=false) (hk:∀e∈t.ents,e.1.length=32) {v:Value} {S:List (List UInt8)} {w:World} (hv:JO w v S) (hl:S.length≤256):Calls Tryz.prog 39 #[.agg (BN v (FQ t))] w (Uz w (NU S t)):=by
 obtain⟨so,sc,rfl,hrow,h32⟩:=hv;obtain⟨n,hn⟩:∃n,n=S.length:=⟨_,rfl⟩
 obtain⟨m,hm⟩:∃m,m=(n+7) / 8:=⟨_,rfl⟩
 rw[←hn] at hl ⊢;have hmz:m≤40:=by omega
 have hck:=fun w=>TY ht hk so n sc hl w
 have hen:=fun w=>Ti ht hk w
 have hp16:=fun w=>WH n hl w
 have hbb:=fun w=>Pp n hl w
 rw[←hm] at hbb;obtain⟨hNs,hN1⟩:=FN ht hk;obtain⟨N,hN⟩:∃N,N=FQ t:=⟨_,rfl⟩
 rw[←hN] at hck hen hNs ⊢;obtain⟨C,hC⟩:∃C,C=BN (.slice so n sc) N:=⟨_,rfl⟩
 have q0:C[0]?=some (.slice so n sc):=by rw[hC];exact G5 _ _
 have qn:C.extract 1 (1+129)=N:=by rw[hC];exact Ko _ _ hNs
 have qs:C.size=130:=by rw[hC];exact BM hNs
 rw[←hC] at hck ⊢
 have hmk:∀w:World,(Instr.makeSlice 29 (.int .i64 (m:Int)) (.int .i64 (m:Int))).run Tryz.prog w=.ok (.slice (some ⟨w.heap.size,0,none⟩) m m) (w.alloc (.cells (madeCells #[.int .u8 0] m) 5)):=fun w =>
  run_make_row' 29 5 (.int .u8 0) 1 Tryz.underlying29 (by kernel_rfl) rfl .i64 .i64 m (by omega) (by omega) w
 obtain⟨MC,hMC⟩:∃MC,MC=madeCells #[Value.int .u8 0] m:=⟨_,rfl⟩
 rw[←hMC] at hmk
 have hmc:MC=AK (EE S 0):=by
  rw[hMC,RN,hm,hn];rfl
 obtain⟨E,hE⟩:∃X,X=AK Tag.CJ:=⟨_,rfl⟩
 have hem:=fun w9=>Tag.JL w9
 rw[←hE] at hem;have HE:=(hIq (show E.size=32 by rw[hE,AN];exact Tag.AT _ _) (aIq (show ∀v∈E.toList,v.oneCell'=true by rw[hE];exact Ae _) hE))
 obtain⟨P,hP⟩:∃P,P=NU S t:=⟨_,rfl⟩
 have hpk:P = [[OR n,Oq n],EE S n,Hi S n,Ip t].flatten:=by rw[hP,hn];rfl
 have hpl:P.length≤10000:=by rw[hP];exact(JX h32 hk (by omega)).2
 rw[←hP];have HC:=(hIq hck (aIq hen (aIq hp16 (aIq hbb (aIq hem (aIq q0 (aIq qn qs)))))))
 have HS:=(hIq hrow (aIq h32 (aIq hn (aIq hm hmc))))
 have HP:=(hIq hpk hpl)
 clear hck hen hp16 hbb hem q0 qn qs hrow h32 hn hm hmc hMC hC hN hNs hN1 hE hP hpk hpl ht hk;go_enter Tryz.func39,Tryz.ntmps39;go_upto_region 1 with fail;refine BJ (fun w1 hw1=>?_);have a1:Adds w w1:=by rw[hw1];exact(Ch.refl _ _).alloc _
 have r1:w1.heap[w.heap.size]?=some (.cells C 94 (0,0)):=by rw[hw1];exact heap_alloc_new _ _
 obtain⟨b1,hb1⟩:∃b,b=w.heap.size:=⟨_,rfl⟩
 rw[←hb1] at r1 ⊢;have H1:=(hIq a1 (aIq r1 hb1))
 clear a1 r1 hw1 hb1
 go_wp2_with (first
  | fail
  | ((with_reducible show zOq (.load 94 _));refine AG rfl 94 _ rfl b1 0 rfl H1.out.2.1 Tryz.underlying94 rfl Ev.2.1 (by rw[HC.out.2.2.2.2.2.2.2];omega) C (by have:=HC.out.2.2.2.2.2.2.2;simp[←this]) ?_))
 refine(HC.out.1 _).mono ?_;rintro e w2 ⟨rfl,a2⟩;have H2:=(hIq (H1.out.1.trans a2 (fun _=>fEq)) (a2.row H1.out.2.1 id))
 have c0:=AH H2.out.2 HC.out.2.2.2.2.2.1;clear a2;go_wp2_with fail;refine(HC.out.2.2.1 _).mono ?_;rintro e w3 ⟨rfl,hw3⟩;have a3:Adds w2 w3:=by rw[hw3];exact(Ch.refl _ _).alloc _
 have r5:w3.heap[w2.heap.size]?=some (.cells (AK [OR n,Oq n]) 5 (0,0)):=by rw[hw3];exact heap_alloc_new _ _
 obtain⟨b5,hb5⟩:∃b,b=w2.heap.size:=⟨_,rfl⟩
 rw[←hb5] at r5 ⊢;have H3:=(hIq (H2.out.1.trans a3 (fun _=>fEq)) (aIq (a3.row H2.out.2 id) (aIq r5 (aIq hb5 a3))))
 clear c0;have c0:=AH H3.out.2.1 HC.out.2.2.2.2.2.1;clear a3 r5 hw3 hb5;go_wp2_with fail;refine(HC.out.2.2.2.1 _).mono ?_;rintro e w4 ⟨rfl,rfl⟩;go_upto_region 6 with fail;refine BJ (fun w4 hw4=>?_);obtain⟨bb,hbb⟩:∃b,b=w3.heap.size:=⟨_,rfl⟩
 obtain⟨g0,hg0⟩:∃b,b=w3.heap.size+1:=⟨_,rfl⟩
 have a4:Adds w3 w4:=by rw[hw4];exact((Ch.refl _ _).alloc _).alloc _
 have rb:w4.heap[bb]?=some (.cells MC 5 (0,0)):=by rw[hw4,hbb];exact AM (heap_alloc_new w3 (.cells MC 5)) _
 have rg:w4.heap[g0]?=some (.cells #[] 5 (0,0)):=by
  rw[hw4,hg0];have:=heap_alloc_new (w3.alloc (.cells MC 5)) (.cells #[] 5);rw[World.size_alloc] at this;exact this
 rw[←hg0, ←hbb];have H4:=(hIq a4 (aIq rb (aIq rg (aIq hbb hg0))))
 clear a4 rb rg hw4 hbb hg0 c0 hmk;go_wp2_with fail;refine(HC.out.2.2.2.2.1 _).mono ?_;rintro e w5 ⟨rfl,a5⟩;have A5:=Lib.hid a5;clear a5
 go_upto_region 7 with(first
  | fail
  | ((with_reducible show zOq (.alloc 35));refine AI rfl 35 rfl (.agg (AK (List.replicate 32 0))) EJ ?_;dsimp only[Value.cells];try simp only[World.size_alloc])
  | ((with_reducible show zOq (.store 35 _ _));refine AE rfl 35 _ _ rfl w5.heap.size 0 E rfl rfl (heap_alloc_new _ _) (by rw[Be,HE.out.1]) (by rw[HE.out.1];exact Nat.le_of_eq (Nat.zero_add _)) HE.out.2.1 E (by rw[AJ _ _ (by rw[Array.length_toList,Array.length_toList,HE.out.1];rfl)]) ?_))
 refine BJ (fun w6 hw6=>?_);have a6:Adds w4 w6:=by rw[hw6];exact(A5.out.alloc _).setRow (.inr A5.out.size) _
 have r9:w6.heap[w5.heap.size]?=some (.cells E 35 (0,0)):=by rw[hw6];exact AF (heap_alloc_new w5 (.cells (AK (List.replicate 32 0)) 35)) E
 obtain⟨b9,hb9⟩:∃b,b=w5.heap.size:=⟨_,rfl⟩
 rw[←hb9] at r9 ⊢;have a36:Adds w3 w6:=H4.out.1.trans a6 (fun _=>fEq);have s1:=Ac H1.out.2.1;have s2:=H2.out.1.size;have s3:=Ac H3.out.2.2.1;have s3':=H3.out.2.2.2.2.size;have s4:=Ac H4.out.2.2.1;have s5:=A5.out.size;have s6:=Ac r9;have s0:=H1.out.2.2;have s22:=Ac H2.out.2;have H6:=(hIq (H3.out.1.trans a36 (fun _=>fEq)) (aIq (a36.row H3.out.2.1 id) (aIq (a36.row H3.out.2.2.1 id) (aIq (a6.row H4.out.2.1 id) (aIq (a6.row H4.out.2.2.1 id) r9)))))
 have HB:=Lib.hid (show w.heap.size≤bb∧w.heap.size≤g0∧bb≠g0∧bb<w6.heap.size∧g0<w6.heap.size∧b1≠bb∧b1≠g0∧b5≠bb∧b5≠g0∧b9≠bb∧b9≠g0 by
  have e1:=H4.out.2.2.2.1;have e2:=H4.out.2.2.2.2;have e3:=H3.out.2.2.2.1;refine⟨?_,?_,?_,?_,?_,?_,?_,?_,?_,?_,?_⟩<;>omega)
 have c0:=AH H6.out.2.1 HC.out.2.2.2.2.2.1;clear a6 r9 hw6 hb9 a36 s0 s1 s2 s3 s3' s4 s5 s6 s22;go_wp2_with fail;go_loopg [8,10,11,36] n (fun g s8 s10 s11 s36 wr=>∃(k nl:Nat) (xs:List UInt8),s36=.int .i64 (k:Nat)∧k+g=n∧Yn w6 wr bb g0 S k nl xs s8)
 case atStart=>exact⟨0,0,[],rfl,by omega,⟨by have:=H6.out.2.2.2.1;rw[HS.out.2.2.2.2] at this;exact this,⟨by simp,.inr ⟨g0,0, #[],rfl,Nat.le_refl _,H6.out.2.2.2.2.1,Nat.le_refl _,Nat.zero_le _,rfl,by simp⟩⟩,rfl,rfl,fun j hj=>by cases hj;exact .inl rfl,Ch.refl _ _⟩⟩
 obtain⟨k,nl,xs,rfl,hk,hst⟩:=hrel;obtain⟨qo,qc,rfl⟩:=Aj hst.own;have HST:=(hIq hst hk)
 have hAw:Adds w wr:=H6.out.1.trans hst.ch (fun j hj=>.inr (hj.elim (fun e=>by rw[e];exact HB.out.1) (fun e=>by rw[e];exact HB.out.2.1)));have HA:=Lib.hid hAw;by_cases hkn:k<n
 · have h1:decide ((k:Int)<(n:Int))=true:=decide_eq_true (by omega)
   have h2:(k:Int)<(n:Int):=by omega
   have hwk:wrap64 ((k:Int)+1)=(k:Int)+1:=by unfold wrap64;omega
   obtain⟨s,hs⟩:∃s,S[k]?=some s:=⟨_,List.getElem?_eq_getElem (by have:=HS.out.2.2.1;omega)⟩
   have hs32:=HS.out.2.1 s (List.mem_of_getElem? hs);obtain⟨gs,off,rfl,cur,ty,fr,p1,p2,p3⟩:=(HS.out.1.Af hAw (fun _=>fEq)) k s hs;rw[AN,hs32] at p2 p3;obtain⟨X,hX⟩:∃X,X=AK s:=⟨_,rfl⟩
   rw[←hX] at p3;have hXs:X.size=32:=by rw[hX,AN,hs32]
   have hX1:∀v∈X.toList,v.oneCell'=true:=by rw[hX];exact Ae _
   have hbst:=RA hs;have hsst:=Qf hs;have hneq:=fun w0=>Pt 35 Tryz.underlying35 s Tag.CJ hs32 (Tag.AT _ _) w0
   rw[←hX, ←HE.out.2.2] at hneq;have HX:=(hIq p1 (aIq p2 (aIq p3 (aIq hXs (aIq hX1 (aIq hX hs32))))))
   have HT:=(hIq hbst hsst)
   have HN:=Lib.hid hneq;clear hs hs32 p1 p2 p3 hX hXs hX1 hbst hsst hneq hst hk hAw
   go_upto_region 10 with(first
    | fail
    | ((with_reducible show zOq (.load 35 _));refine AG rfl 35 _ rfl gs (off+k*32) rfl HX.out.1 Tryz.underlying35 rfl Be (by have:=HX.out.2.1;omega) X HX.out.2.2.1 ?_)
    | ((with_reducible show zOq (.alloc 35));refine AI rfl 35 rfl (.agg (AK (List.replicate 32 0))) EJ ?_;dsimp only[Value.cells];try simp only[World.size_alloc])
    | ((with_reducible show zOq (.store 35 _ _));refine AE rfl 35 _ _ rfl wr.heap.size 0 X rfl rfl (heap_alloc_new _ _) (by rw[Be,HX.out.2.2.2.1]) (by rw[HX.out.2.2.2.1];exact Nat.le_of_eq (Nat.zero_add _)) HX.out.2.2.2.2.1 X (by rw[AJ _ _ (by rw[Array.length_toList,Array.length_toList,HX.out.2.2.2.1];rfl)]) ?_))
   refine BJ (fun wa hwa=>?_);have aa:Adds wr wa:=by rw[hwa];exact((Ch.refl _ _).alloc _).setRow (.inr (Nat.le_refl _)) _
   have r11:wa.heap[wr.heap.size]?=some (.cells X 35 (0,0)):=by rw[hwa];exact AF (heap_alloc_new wr (.cells (AK (List.replicate 32 0)) 35)) X
   have r9a:wa.heap[b9]?=some (.cells E 35 (0,0)):=aa.row (HST.out.1.ch.row H6.out.2.2.2.2.2 (fun h=>h.elim (fun e=>HB.out.2.2.2.2.2.2.2.2.2.1 e) (fun e=>HB.out.2.2.2.2.2.2.2.2.2.2 e))) id;obtain⟨b11,hb11⟩:∃b,b=wr.heap.size:=⟨_,rfl⟩
   rw[←hb11] at r11 ⊢;have HAA:=(hIq aa (aIq r11 (aIq r9a hb11)))
   clear aa r11 r9a hwa hb11;by_cases he:s=Tag.CJ
   · have hne:∀w0,(Go.binOp BinOp.neq 35 (.agg X) (.agg E)).run Tryz.prog w0=.ok (.bool false) w0:=fun w0=>by rw[HN.out w0,decide_eq_true he];rfl
     have HR:RowKit.Hid (Yn w6 wa bb g0 S (k+1) nl xs (.slice qo nl qc)):=Lib.hid ⟨by rw[HT.out.1,if_pos he];exact HAA.out.1.row HST.out.1.row id,HAA.out.1.owns HST.out.1.own (fun _ _ h=>h),by rw[HT.out.2,if_pos he];exact HST.out.1.sides,HST.out.1.len,HST.out.1.blk,HST.out.1.ch.trans (HAA.out.1.mono (fun _ _ h=>h.elim)) (fun _ h=>h)⟩;clear he
     go_wp2_with (first
      | fail
      | ((with_reducible show zOq (.load 35 _));refine AG rfl 35 _ rfl b11 0 rfl HAA.out.2.1 Tryz.underlying35 rfl Be (by rw[HX.out.2.2.2.1];omega) X (by have:=HX.out.2.2.2.1;simp[←this]) ?_)
      | ((with_reducible show zOq (.load 35 _));refine AG rfl 35 _ rfl b9 0 rfl HAA.out.2.2.1 Tryz.underlying35 rfl Be (by rw[HE.out.1];omega) E (by have:=HE.out.1;simp[←this]) ?_))
     go_roundg (n-(k+1))
     case measure=>have:=HST.out.2;omega
     exact⟨k+1,nl,xs,by first|(simp;done)|(simp[hwk];done),by omega,HR.out⟩
   have hne:∀w0,(Go.binOp BinOp.neq 35 (.agg X) (.agg E)).run Tryz.prog w0=.ok (.bool true) w0:=fun w0=>by rw[HN.out w0,decide_eq_false he];rfl
   obtain⟨kq,hkq⟩:∃q,q=k / 8:=⟨_,rfl⟩
   obtain⟨kr,hkr⟩:∃r,r=k % 8:=⟨_,rfl⟩
   have hkb:kq<(EE S k).length:=by rw[EH];have:=HS.out.2.2.1;omega
   have hkm:kq<m:=by have:=HS.out.2.2.2.1;omega
   have hkm':(kq:Int)<(m:Int):=by omega
   obtain⟨x,hx⟩:∃x,x=(EE S k).getD kq 0:=⟨_,rfl⟩
   have rba:=HAA.out.1.row HST.out.1.row id;have cb:=AH rba (D9 hkb);rw[←hx] at cb;have fb:=Al rba kq;have lb:=Ac rba;obtain⟨z,hz⟩:∃z,z=bitU k:=⟨_,rfl⟩
   obtain⟨y,hy⟩:∃y,y=x ||| z:=⟨_,rfl⟩
   have hor:=YY x z;rw[←hy] at hor;have ht1:Int.tdiv (k:Int) 8=(kq:Int):=by rw[hkq];rfl
   have ht2:Int.tmod (k:Int) 8=(kr:Int):=by rw[hkr];rfl
   have hd1:(k:Int) / 8=(kq:Int):=by omega
   have hd2:(k:Int) % 8=(kr:Int):=by omega
   have hw1:IntKind.i64.wrap (kq:Int)=(kq:Int):=IntWalk.i64_in _ (by omega);have hw2:IntKind.i64.wrap (kr:Int)=(kr:Int):=IntWalk.i64_in _ (by omega);have hsh:(128:Int) / 2 ^ kr=(z.toNat:Int):=by rw[hkr,hz];exact Sz k
   have hr8:(kr:Int)≤8:=by omega
   have HR0:RowKit.Hid ((wa.drew.setCell ⟨bb,kq,none⟩ (bv y)).heap[bb]?=some (.cells (AK (EE S (k+1))) 5 (0,0))):=Lib.hid (by
    rw[HT.out.1,if_neg he];have e:PI (EE S k) k=(EE S k).set kq y:=by unfold PI;rw[hy,hx,hz,hkq]
    rw[e, ←Vw];exact AQ (AP rba) kq (bv y))
   have HM:=(hIq ht1 (aIq ht2 (aIq hd1 (aIq hd2 (aIq hw1 (aIq hw2 (aIq hsh hor)))))))
   have HCB:=(hIq cb lb)
   have hs0:∀w0:World,(Instr.sliceAt 35 (.pointer (some ⟨b11,0,none⟩)) none none none).run Tryz.prog w0=.ok (.slice (some ⟨b11,0,none⟩) 32 32) w0:=fun w0=>CK w0 35 32 (by kernel_rfl) (by kernel_rfl) (by kernel_rfl) _ _
   have hSS:RowKit.Hid (xs++s=Hi S (k+1)):=Lib.hid (by rw[HT.out.2,if_neg he,HST.out.1.sides]);have hnl:nl≤32*k:=by rw[HST.out.1.len,HST.out.1.sides];exact Ex HS.out.2.1 k (by have:=HS.out.2.2.1;omega)
   clear he rba hx hz hy hor hkq hkr hkb ht1 ht2 hd1 hd2 hw1 hw2 hsh
   go_wp2_with (first
    | fail
    | ((with_reducible show zOq (.load 35 _));refine AG rfl 35 _ rfl b11 0 rfl HAA.out.2.1 Tryz.underlying35 rfl Be (by rw[HX.out.2.2.2.1];omega) X (by have:=HX.out.2.2.2.1;simp[←this]) ?_)
    | ((with_reducible show zOq (.load 35 _));refine AG rfl 35 _ rfl b9 0 rfl HAA.out.2.2.1 Tryz.underlying35 rfl Be (by rw[HE.out.1];omega) E (by have:=HE.out.1;simp[←this]) ?_))
   refine AO (fun w0=>w0.cell? ⟨bb,kq,none⟩=some (bv x)) 9 [(0,false),(1,false),(2,false),(3,false),(4,false),(5,false),(6,false),(7,false),(8,false)] (by kernel_rfl) (by kernel_rfl) ?_ ?_
   · exact cb
   iterate 2
    refine plan_look rfl rfl (fun w0 hS=>(by clear hS;go_simp;try rfl)) ?_;simp only[Act.put,nAq,nBq,nCq]
   refine plan_look (v:=.int .i64 kq) rfl rfl (fun w0 hS=>(by clear hS;have h1:=HM.out.1;have h2:=HM.out.2.2.2.2.1;go_simp;try simp[h1,h2])) ?_;simp only[Act.put,nAq,nBq,nCq];refine plan_look rfl rfl (fun w0 hS=>(by clear hS;go_simp;try rfl)) ?_;simp only[Act.put,nAq,nBq,nCq];refine plan_look (v:=bv x) rfl rfl (fun w0 hS=>(by go_simp;try rfl)) ?_;simp only[Act.put,nAq,nBq,nCq];refine plan_look rfl rfl (fun w0 hS=>(by clear hS;go_simp;try rfl)) ?_;simp only[Act.put,nAq,nBq,nCq];refine plan_look (v:=.int .i64 kr) rfl rfl (fun w0 hS=>(by clear hS;have h1:=HM.out.2.1;have h2:=HM.out.2.2.2.2.2.1;go_simp;try simp[h1,h2])) ?_;simp only[Act.put,nAq,nBq,nCq];refine plan_look (v:=.int .u8 (z.toNat:Nat)) rfl rfl (fun w0 hS=>(by clear hS;have h1:=HM.out.2.2.2.2.2.2.1;go_simp;try simp[h1])) ?_;simp only[Act.put,nAq,nBq,nCq];refine plan_look (v:=.int .u8 (y.toNat:Nat)) rfl rfl (fun w0 hS=>(by clear hS;have h1:=HM.out.2.2.2.2.2.2.2;go_simp;try simp[h1])) ?_;simp only[Act.put,nAq,nBq,nCq];refine AZ ?_;simp only[List.drop_succ_cons,List.drop_zero];go_wp2;refine NoPanic.normal ?_;obtain⟨wb,hwb⟩:∃wb,wb=wa.drew.setCell ⟨bb,kq,none⟩ (bv y):=⟨_,rfl⟩
   have e0:(wa.setCell ⟨bb,kq,none⟩ (.int .u8 (y.toNat:Nat))).drew=wb:=by rw[hwb];rfl
   first|rw[e0]|rw[←hwb]
   have rbb:=HR0.out;rw[←hwb] at rbb;have cab:Ch (fun j=>j=bb) wr wb:=by rw[hwb];exact(show Ch (fun j=>j=bb) wr wa.drew from HAA.out.1.drew.mono (fun _ _ h=>h.elim)).setCell (.inl rfl) _
   have ownb:=cab.owns HST.out.1.own (fun j hj hf=>(HST.out.1.blk j hj).elim (fun e=>HB.out.2.2.1 ((show j=bb from hf).symm.trans e)) (fun e=>by have h1:=HB.out.2.2.2.1;have h2:j=bb:=hf;omega));have cab2:Ch (fun j=>j=bb) wa wb:=by rw[hwb];exact(Ch.refl (fun j=>j=bb) wa).drew.setCell (.inl rfl) _
   have r11b:=cab2.row HAA.out.2.1 (show ¬b11=bb by have h1:=HAA.out.2.2.2;have h2:=HB.out.2.2.2.1;have h3:=HST.out.1.ch.size;omega);have chb:Ch (fun j=>j=bb∨j=g0) w6 wb:=HST.out.1.ch.trans cab (fun j hj=>.inl (.inl hj));have byb:Bytes wb (.slice (some ⟨b11,0,none⟩) 32 32) s:=Bytes.row (bs:=s) (n:=32) (by rw[←HX.out.2.2.2.2.2.1];exact r11b) HX.out.2.2.2.2.2.2 (by unfold maxLen;omega);have HBB:=(hIq rbb (aIq ownb (aIq chb byb)))
   have hlt8:RowKit.Hid (s.length=32):=Lib.hid HX.out.2.2.2.2.2.2;clear rbb cab cab2 ownb r11b chb byb hwb e0 cb fb lb HCB
   go_wp2_with (first
    | fail
    | (at_builtin;refine ER rfl _ _ rfl (.slice qo nl qc) nl xs rfl (HBB.out.2.1.base (fun _ _=>Nat.zero_le _)) (.slice (some ⟨b11,0,none⟩) 32 32) s rfl HBB.out.2.2.2 (by rw[hlt8.out];omega) ?_;intro v' w4 own' grow' loc';have c4:Ch (fun j=>j=bb∨j=g0) w6 w4:=HBB.out.2.2.1.grown grow' (fun j hj=>(HST.out.1.blk j hj).elim (fun e=>.inl (.inr e)) .inr);have own2:=Gb (b:=g0) own' (fun j hj=>(HBB.out.2.1.lt j hj).1) (Nat.le_trans (Nat.le_of_lt HB.out.2.2.2.2.1) HBB.out.2.2.1.size) loc';have blk2:∀j,v'.ownBlock=some j→j=g0∨w6.heap.size≤j:=(fun j hj=>loc'.elim (fun e=>HST.out.1.blk j (by rw[←e];exact hj)) (fun e=>.inr (Nat.le_trans HBB.out.2.2.1.size (e j hj))));have rb4:=Vm grow' HBB.out.1 (fun e=>(HST.out.1.blk bb e).elim (fun q=>HB.out.2.2.1 q) (fun q=>by have:=HB.out.2.2.2.1;omega));obtain⟨no,nc,rfl⟩:=Aj own';have H5:=(hIq c4 (aIq own2 (aIq blk2 rb4)));clear own' grow' loc' c4 own2 blk2 rb4))
   go_roundg (n-(k+1))
   case measure=>have:=HST.out.2;omega
   exact⟨k+1,nl+s.length,xs++s,by first|(simp;done)|(simp[hwk];done),by omega,⟨H5.out.2.2.2,H5.out.2.1,hSS.out,by rw[List.length_append,HST.out.1.len],H5.out.2.2.1,H5.out.1⟩⟩
 obtain rfl:k=n:=by omega
 have h1:decide ((k:Int)<(k:Int))=false:=decide_eq_false (by omega);have h2:¬(k:Int)<(k:Int):=by omega
 have r1w:=hst.ch.row H6.out.2.1 (fun h=>h.elim (fun e=>HB.out.2.2.2.2.2.1 e) (fun e=>HB.out.2.2.2.2.2.2.1 e));have r5w:=hst.ch.row H6.out.2.2.1 (fun h=>h.elim (fun e=>HB.out.2.2.2.2.2.2.2.1 e) (fun e=>HB.out.2.2.2.2.2.2.2.2.1 e));have hnl:nl≤32*k:=by rw[hst.len,hst.sides];exact Ex HS.out.2.1 k (by have:=HS.out.2.2.1;omega)
 have HW:=(hIq r1w (aIq r5w hnl))
 clear hst hk r1w r5w hnl c0 hAw
 go_wp2_with (first
  | fail
  | ((with_reducible show zOq (.load 92 _));refine AG rfl 92 _ rfl b1 1 rfl HW.out.1 Tryz.underlying92 rfl B6.2.1 (by rw[HC.out.2.2.2.2.2.2.2];omega) N HC.out.2.2.2.2.2.2.1 ?_))
 refine(HC.out.2.1 _).mono ?_;rintro e w7 ⟨q,rfl,hq,a7⟩;obtain⟨q4,c4,rfl⟩:=Aj hq;obtain⟨tl,htl⟩:∃tl,tl=(Ip t).length:=⟨_,rfl⟩
 have H7:=(hIq hq (aIq a7 htl))
 rw[←htl];clear hq a7 htl
 have hjn:=fun w8 (h8:w8=w7.alloc (.cells #[.slice (some ⟨b5,0,none⟩) 2 2,.slice (some ⟨bb,0,none⟩) m m,.slice qo nl qc,.slice q4 tl c4] 29))=>(show Calls Tryz.prog 100 #[.slice (some ⟨w7.heap.size,0,none⟩) 4 4] w8 (Js w8 P) by
  have a8:Adds w7 w8:=by rw[h8];exact(Ch.refl _ _).alloc _
  have r8:w8.heap[w7.heap.size]?=some (.cells #[.slice (some ⟨b5,0,none⟩) 2 2,.slice (some ⟨bb,0,none⟩) m m,.slice qo nl qc,.slice q4 tl c4] 29 (0,0)):=by rw[h8];exact heap_alloc_new _ _
  have a78:=H7.out.2.1.trans a8 (fun _=>fEq);have bl:(EE S k).length=m:=by rw[EH,HS.out.2.2.2.1,HS.out.2.2.1]
  have r5:=a78.row HW.out.2.1 id;have rb:=a78.row HST.out.1.row id;have b0:Bytes w8 (.slice (some ⟨b5,0,none⟩) 2 2) [OR k,Oq k]:=Bytes.row (bs := [OR k,Oq k]) (n:=2) r5 rfl (by unfold maxLen;omega);have b1:Bytes w8 (.slice (some ⟨bb,0,none⟩) m m) (EE S k):=Bytes.row rb bl (by unfold maxLen;omega);have o2:=a78.owns HST.out.1.own (fun _ _ h=>h);have o2':=GM (bs:=xs) (by rw[←HST.out.1.len];exact o2) (by rw[←HST.out.1.len];have:=HW.out.2.2;omega);rw[HST.out.1.sides] at o2';have o3:=a8.owns H7.out.1 (fun _ _ h=>h)
  have tl65:(Ip t).length≤10000:=by
   have h9:=HP.out.2;rw[HP.out.1] at h9;simp only[List.flatten_cons,List.flatten_nil,List.length_append,List.length_nil] at h9;omega
  have o3':=GM (bs:=Ip t) o3 (by omega);rw[←H7.out.2.2] at o3'
  have hp:Tag.Hw w8 (.slice (some ⟨w7.heap.size,0,none⟩) 4 4) [[OR k,Oq k],EE S k,Hi S k,Ip t]:=by
   refine⟨_,4,rfl,fun i p h=>?_⟩
   match i,h with
   | 0,h =>
    simp at h;subst h;exact⟨w7.heap.size,0,_,rfl,AH r8 rfl,b0,fun _ k hk=>by cases hk;exact Ac r5⟩
   | 1,h =>
    simp at h;subst h;exact⟨w7.heap.size,0,_,rfl,AH r8 rfl,b1,fun _ k hk=>by cases hk;exact Ac rb⟩
   | 2,h =>
    simp at h;subst h;exact⟨w7.heap.size,0,_,rfl,AH r8 rfl,o2'.1,fun _ k hk=>(o2'.2 k hk).2⟩
   | 3,h =>
    simp at h;subst h;exact⟨w7.heap.size,0,_,rfl,AH r8 rfl,o3'.1,fun _ k hk=>(o3'.2 k hk).2⟩
   | i+4,h=>simp at h
  have hj:=R8 hp (by rw[←HP.out.1];have:=HP.out.2;omega) (by simp);rw[←HP.out.1] at hj;exact hj)
 have HJ:=Lib.hid hjn;clear hjn;go_wp2_with fail;refine(HJ.out _ rfl).mono ?_;rintro e w9 ⟨q5,rfl,hq5,a9⟩;have hA9:Adds w w9:=((HA.out.trans H7.out.2.1 (fun _=>fEq)).alloc _).trans a9 (fun _=>fEq);have hsz:=((HA.out.trans H7.out.2.1 (fun _=>fEq)).alloc (.cells #[.slice (some ⟨b5,0,none⟩) 2 2,.slice (some ⟨bb,0,none⟩) m m,.slice qo nl qc,.slice q4 tl c4] 29)).size;have H9:=(hIq (hq5.base (b':=w.heap.size) (fun j hj=>Nat.le_trans hsz (hq5.lt j hj).1)) hA9)
 clear hq5 a9 hA9 hsz;go_wp2;go_ret2;exact⟨_,rfl,H9.out.1,H9.out.2⟩
end Go.Proofs.YtngbdbpofifimaaGreat.Law15
