/- Laws of the layers below. -/
import Derived.Test.YtngbdbpofifimaaGreatQl25
set_option maxHeartbeats 3200000
set_option maxRecDepth 100000
set_option linter.unusedVariables false
namespace Go.Proofs.YtngbdbpofifimaaGreat.Law9
open Go.RowKit Go.Sort Go.Proofs.YtngbdbpofifimaaGreat.ShaW Go.Proofs.YtngbdbpofifimaaGreat.Path Go.Proofs.YtngbdbpofifimaaGreat.Store
structure Ce (l l':List Wm):Prop where
 ex:∃out,D3 l out∧l'.Perm out
 rise:C8 (l'.map Wm.ent)
theorem OJ {w:World} {ao:Option Addr} {l:List Wm} (cap:Nat) (h:Cq w ao l) (hn:l.length≤4096) :
 Calls Tryz.prog 139 #[.slice ao l.length cap] w fun e w'=>∃l' ao' cap',e=.returned (.slice ao' l'.length cap')∧(l'.length≤cap'∨l' = [])∧Ce l l'∧Cq w' ao' l'∧Adds w w'∧∀a,ao'=some a→w.heap.size≤a.block:=by
 obtain⟨len,hlen⟩:∃len,len=l.length:=⟨_,rfl⟩
 obtain⟨ZP,hZP⟩:∃Z,Z=I1.cells:=⟨_,rfl⟩
 have hz:=RF;rw[←hZP] at hz;have hzs:ZP.size=34:=by rw[hZP];exact Wm.size rfl
 rw[←hlen] at hn ⊢;have HL:=(hIq hlen hn)
 have HP:=Lib.hid h;have HZ:=(hIq hz hzs)
 have hmm:=@run_makeMap Tryz.prog;clear h hlen hn hz hzs hZP;go_enter Tryz.func139,Tryz.ntmps139;go_wp2;have hst:J6 w (w.alloc (.map #[] 0)) w.heap.size (.slice none 0 0) l [] 0:=⟨by rw[List.take_zero];exact .nil,Ck.nil _ _,⟨[],D6.made w,Idx.nil⟩,⟨Nat.le_refl _,fun h=>by cases h⟩,(Ch.refl _ _).alloc _⟩
 have HS0:=Lib.hid hst;clear hst hmm;go_loopg [4,6,7,8,12] len (fun g s4 s6 s7 s8 s12 wr=>∃(k:Nat) (out:List Wm),s12=.int .i64 k∧k+g=len∧J6 w wr w.heap.size s4 l out k)
 case atStart=>exact⟨0,[],rfl,by omega,HS0.out⟩
 obtain⟨k,out,rfl,hk,hst⟩:=hrel;obtain⟨oo,oc,rfl⟩:=hst.row.form;have HS:=Lib.hid hst;have HKG:=Lib.hid hk;clear HS0
 have hgo:∀x∈out,x.Good w:=fun y hy=>by
  obtain⟨x,hx,rfl⟩:=hst.lasts.mem y hy;exact Wm.Mz (HP.out.good x (List.mem_of_mem_take hx))
 have HG:=Lib.hid hgo;have hol:out.length≤k:=by have:=hst.lasts.len;rw[List.length_take] at this;omega
 have HOL:=Lib.hid hol;by_cases hkl:k=len
 · have hx1:decide ((k:Int)<(len:Int))=false:=decide_eq_false (by omega)
   have hx1':decide (k<len)=false:=decide_eq_false (by omega);have hso:=VJ hst.row (Nat.le_refl _) hgo hst.world (by have:=HL.out.2;omega);have hlast:=hst.lasts;rw[List.take_of_length_le (by have:=HL.out.1;omega)] at hlast;have HSO:=(hIq hso (aIq hlast (fun a (e:oo=some a)=>(hst.row.lt a.block (by rw[e];rfl)).1)))
   clear hk hst hgo hol hkl hso hlast;go_wp2_with fail;refine HSO.out.1.mono ?_;rintro e w3 ⟨rfl,a3,l',ao',cap',e3,s1,s2,s3,s4,s5⟩;injection e3 with e1 e2 e3;have H3:=(hIq a3 (aIq s1 (aIq s2 (aIq s3 (aIq s4 s5)))))
   have HE:=(hIq e1 e3)
   clear a3 s1 s2 s3 s4 s5 e1 e2 e3;go_wp2;go_ret;obtain⟨rfl,rfl⟩:=HE.out;exact⟨l',_,_,by rw[H3.out.2.1];rfl,H3.out.2.2.1,⟨⟨out,HSO.out.2.1,H3.out.2.2.2.1⟩,H3.out.2.2.2.2.1⟩,H3.out.2.2.2.2.2,H3.out.1,HSO.out.2.2⟩
 have hx1:decide ((k:Int)<(len:Int))=true:=decide_eq_true (by omega);have hx1':decide (k<len)=true:=decide_eq_true (by omega);have hkl':k<l.length:=by have:=HL.out.1;omega
 have hklen:(k:Int)<(len:Int):=by omega
 have hklen':k<len:=by omega
 have hwk:wrap64 ((k:Int)+1)=(k:Int)+1:=by have:=HL.out.2;unfold wrap64;omega
 obtain⟨x,hx⟩:∃x,l[k]?=some x:=⟨_,List.getElem?_eq_getElem hkl'⟩
 obtain⟨g0,off,rfl,hp⟩:=HP.out.row k x hx;have hg:=HP.out.good x (List.mem_of_getElem? hx);have hsz:=Wm.size hg.key;obtain⟨cur,ty,fr,c1,c2,c3⟩:=hp;rw[hsz] at c2 c3;obtain⟨C,hC⟩:∃C,C=x.cells:=⟨_,rfl⟩
 have hone:=Wm.one hg;have hgn:=Wm.LC hg.key;have hvl:=Wm.Hc hg.key;rw[←hC] at c3 hsz hone hgn hvl;have HC:=(hIq (hst.world.row c1 id) (aIq c2 (aIq c3 (aIq hsz hone))))
 have HX:=(hIq hx (aIq hC hg))
 have htk:l.take (k+1)=l.take k ++ [x]:=by rw[List.take_add_one,hx];rfl
 have HTK:=Lib.hid htk;have HGN:=(hIq hgn hvl)
 clear hk hkl hst hgo hol hx hg hsz c1 c2 c3 hC hone htk hgn hvl
 go_upto_region 6 with(first
  | fail
  | ((with_reducible show zOq (.load 134 _));refine AG rfl 134 _ rfl g0 (off+k*34) rfl HC.out.1 Tryz.underlying134 rfl Eu (by have:=HC.out.2.1;omega) C HC.out.2.2.1 ?_)
  | ((with_reducible show zOq (.alloc 134));refine AI rfl 134 rfl (.agg ZP) HZ.out.1 ?_;dsimp only[Value.cells];try simp only[World.size_alloc])
  | ((with_reducible show zOq (.store 134 _ _));refine AE rfl 134 _ _ rfl wr.heap.size 0 C rfl rfl (heap_alloc_new _ _) (by rw[Eu,HC.out.2.2.2.1]) (by rw[HC.out.2.2.2.1,HZ.out.2];omega) HC.out.2.2.2.2 C (by rw[AJ _ _ (by rw[Array.length_toList,Array.length_toList,HC.out.2.2.2.1,HZ.out.2])]) ?_))
 refine BJ (fun wx hwx=>?_);have ax:Adds wr wx:=by rw[hwx];exact((Ch.refl _ _).alloc _).setRow (.inr (Nat.le_refl _)) _
 have rx:wx.heap[wr.heap.size]?=some (.cells C 134 (0,0)):=by rw[hwx];exact AF (heap_alloc_new wr (.cells ZP 134)) C
 have AX:=(hIq ax rx)
 obtain⟨Y,hY⟩:∃Y,Y=x.bare.cells:=⟨_,rfl⟩
 have HY:=Lib.hid hY;have q32:=AH rx HGN.out.1;have q33:=AH rx HGN.out.2;have f33:=Al rx 33;have l33:=Ac rx;obtain⟨gb,hgb⟩:∃gb,gb=x.gone:=⟨_,rfl⟩
 rw[←hgb] at q32;have HGB:=Lib.hid hgb;clear ax rx hwx hY hgb;go_upto_if 17 with fail;go_cut [] (fun wy=>Adds wr wy∧wy.heap[wr.heap.size]?=some (.cells Y 134 (0,0)))
 case first =>
  cases gb with
  | false =>
   have hyc:Y=C:=by rw[HY.out,HX.out.2.1];unfold Wm.bare;rw[if_neg (by rw[←HGB.out];simp)]
   have HYC:=Lib.hid hyc;clear hyc;go_wp2;go_meet;exact⟨AX.out.1,by rw[HYC.out];exact AX.out.2⟩
  | true =>
   have hyc:C.setIfInBounds 33 (.slice none 0 0)=Y:=by rw[HY.out,HX.out.2.1];exact Rn HX.out.2.2.key HGB.out.symm
   have HYC:=Lib.hid hyc;clear hyc;go_wp2;go_meet;refine⟨AX.out.1.setCell (p:=⟨wr.heap.size,33,none⟩) (.inr (Nat.le_refl _)) _,?_⟩;rw[←HYC.out];exact AQ AX.out.2 33 _
 obtain⟨hA,hrow⟩:=hcut;have hst2:=HS.out.adds hA;obtain⟨κ,hκ,hidx⟩:=hst2.idx;have hyg:x.bare.Good w:=Wm.Mz HX.out.2.2;have hys:=Wm.size hyg.key;have hy1:=Wm.one hyg;have hyk:=Wm.BX hyg.key;rw[Wm.DF] at hyk;rw[←HY.out] at hys hy1 hyk;obtain⟨K,hK⟩:∃K,K=AK x.key:=⟨_,rfl⟩
 have hlk:=hκ.look HX.out.2.2.key;rw[←hK] at hyk hlk;have hbx:=hst2.bge.2;have HYY:=(hIq hrow (aIq hys (aIq hy1 hyk)))
 have H2:=(hIq hst2 (aIq hκ (aIq hidx (aIq hK hyg))))
 clear hA hrow hst2 hyg hys hy1 hyk hK hκ;by_cases hm:x.key∈κ.names
 · rw[decide_eq_true hm] at hlk
   obtain⟨q,hq,hqk⟩:=(hidx.mem _).1 hm;obtain⟨i,hi⟩:=List.getElem?_of_mem hq;have hil:=(List.getElem?_eq_some_iff.1 hi).1;have hgi:=hidx.at_ i q hi;rw[hqk] at hgi;rw[hgi] at hlk;have hso:EZ Wm.cells 34 out:=fun y hy=>Wm.size (HG.out y hy).key
   obtain⟨go,co,curo,hv,hbo,hco,hgo,hso2,hxo,hset⟩:=H2.out.1.row.open hso (by omega)
   injection hv with hv1 hv2 hv3;subst hv1;subst hv3;have hset:=hset i x.bare hil (by rw[←HY.out];exact HYY.out.2.1);rw[←HY.out] at hset;have hmi:i*34+34≤out.length*34:=by have:=Nat.mul_le_mul_right 34 (show i+1≤out.length by omega);omega
   have hili:(i:Int)<(out.length:Int):=by omega
   have hi0:decide ((i:Int)<0)=false:=decide_eq_false (by omega);have hgb:go≠w.heap.size:=fun e=>hbx (by rw[e];rfl)
   have HO:=(hIq hgo (aIq (show i*34+34≤curo.size by omega) (aIq hset (aIq hi (aIq hqk (aIq hbo hgb))))))
   clear hq hqk hi hgi hso hbo hco hgo hso2 hxo hset hmi hm hidx hbx hgb
   go_wp2_with (first
    | fail
    | ((with_reducible show zOq (.load 47 _));refine AG rfl 47 _ rfl wr.heap.size 0 rfl HYY.out.1 Tryz.underlying47 rfl AY (by rw[HYY.out.2.1];omega) K HYY.out.2.2.2 ?_)
    | ((with_reducible show zOq (.load 134 _));refine AG rfl 134 _ rfl wr.heap.size 0 rfl HYY.out.1 Tryz.underlying134 rfl Eu (by rw[HYY.out.2.1];omega) Y (by have:=HYY.out.2.1;simp[←this]) ?_)
    | ((with_reducible show zOq (.store 134 _ _));go_must (refine AE rfl 134 _ _ rfl go (i*34) Y rfl rfl HO.out.1 (by rw[Eu,HYY.out.2.1]) (by rw[HYY.out.2.1];exact HO.out.2.1) HYY.out.2.2.1 _ rfl ?_)))
   go_roundg (gk-1)
   case measure=>have:=HKG.out;omega
   have hs:=H2.out.1;refine⟨k+1,out.set i x.bare,by first|(simp;done)|(simp[hwk];done),by have:=HKG.out;omega,⟨?_,HO.out.2.2.1,⟨κ,?_,H2.out.2.2.1.old HO.out.2.2.2.1 HO.out.2.2.2.2.1⟩,hs.bge,hs.world.setRow (.inr HO.out.2.2.2.2.2.1) _⟩⟩
   · rw[HTK.out];exact .old hs.lasts HO.out.2.2.2.1 HO.out.2.2.2.2.1
   obtain⟨D,⟨es,clock,hb,F,hs2,hD⟩,h2⟩:=H2.out.2.1;exact⟨D,⟨es,clock,row_setRow hb (Ne.symm HO.out.2.2.2.2.2.2) _,F,Nat.le_succ_of_le hs2,hD⟩,h2⟩
 rw[decide_eq_false hm] at hlk;have hno:∀q∈out,q.key≠x.key:=fun q hq e=>hm ((hidx.mem _).2 ⟨q,hq,e⟩)
 obtain⟨i0,z0,p1,p2,p3,p4,p5⟩:=LK;have HI:=(hIq p1 (aIq p2 (aIq p3 (aIq p4 p5))))
 have HNO:=(hIq hno hbx)
 have hwo:(Lit.int .i64 ((out.length:Nat):Int)).wf=true:=WalkArith.wf_i64 (by have:=HOL.out;have:=HL.out.2;omega);have HWO:=Lib.hid hwo;clear hm hidx p1 p2 p3 p4 p5 hno hbx hwo
 go_upto_region 12 with(first
  | fail
  | ((with_reducible show zOq (.load 47 _));refine AG rfl 47 _ rfl wr.heap.size 0 rfl HYY.out.1 Tryz.underlying47 rfl AY (by rw[HYY.out.2.1];omega) K HYY.out.2.2.2 ?_)
  | (at_mapUpdate;refine TT H2.out.2.1 (by have:=HL.out.2;unfold maxLen;omega) rfl _ _ _ rfl rfl x.key HX.out.2.2.key (by rw[←H2.out.2.2.2.1];rfl) (out.length:Nat) rfl HWO.out ?_;intro w5 set5 ch5))
 have a5:Adds w w5:=H2.out.1.world.trans ch5 (fun k hk=>.inr (by rw[hk];exact Nat.le_refl _));have r5:Ck 134 34 Wm.cells w5 w.heap.size (.slice oo out.length oc) out:=ch5.owns H2.out.1.row (fun k hk e=>HNO.out.2 (by rw[hk,e]));have y5:w5.heap[wr.heap.size]?=some (.cells Y 134 (0,0)):=ch5.row HYY.out.1 (fun e=>by have:=HS.out.world.size;have:=Ac HYY.out.1;have h2:=HS.out.idx;obtain⟨κ2,h3,_⟩:=h2;have:=h3.lt;omega);have H5:=(hIq a5 (aIq r5 (aIq y5 set5)))
 clear a5 r5 y5 set5 ch5
 go_wp2_with (first
  | fail
  | ((with_reducible show zOq (.load 134 _));refine AG rfl 134 _ rfl wr.heap.size 0 rfl H5.out.2.2.1 Tryz.underlying134 rfl Eu (by rw[HYY.out.2.1];omega) Y (by have:=HYY.out.2.1;simp[←this]) ?_)
  | ((with_reducible show zOq (.buildSlice 132 _ _));refine As rfl 132 _ rfl 134 i0 z0 (.agg Y) rfl Tryz.underlying132 HI.out.1 HI.out.2.1 (by rw[HI.out.2.2.1];decide) (by rw[HI.out.2.2.1];decide) (by rw[HI.out.2.2.1];exact HYY.out.2.1) ?_)
  | (at_builtin;refine Ak rfl _ _ 132 rfl 134 i0 z0 34 64 Tryz.underlying132 HI.out.1 HI.out.2.1 HI.out.2.2.1 HI.out.2.2.2.1 HI.out.2.2.2.2 (by decide) (.slice oo out.length oc) out.length (BC Wm.cells out) rfl ((H5.out.2.1.adds ((Ch.refl _ _).alloc _)).base (fun _ _=>Nat.zero_le _)) ⟨w5.heap.size,0,none⟩ 1 1 Y.toList rfl (by rw[Array.length_toList,HYY.out.2.1]) (Cc (heap_alloc_new w5 (.cells Y 134))) HYY.out.2.2.1 (by have:=HOL.out;have:=HL.out.2;unfold maxLen;omega) (by have:=HOL.out;have:=HL.out.2;omega) ?_;intro v' w6 own' grow' loc'))
 obtain⟨o6,c6,hv6⟩:=Aj own';subst hv6;have hA6:Adds w w6:=(H5.out.1.alloc _).grown grow' (fun k hk=>.inr (H5.out.2.1.lt k hk).1)
 have hb6:∀k,(Value.slice o6 (out.length+1) c6).ownBlock=some k→w.heap.size≤k∧k≠w.heap.size:=fun k hk=>by
  rcases loc' with e|e
  · rw[e] at hk
    exact⟨(H5.out.2.1.lt k hk).1,fun e2=>HNO.out.2 (by rw[hk,e2])⟩
  have h1:=e k hk;have h2:=H5.out.1.size;have h3:=H5.out.2.2.2.lt;simp at h1;omega
 have hrow6:Ck 134 34 Wm.cells w6 w.heap.size (.slice o6 (out.length+1) c6) (out ++ [x.bare]):=by
  have hfl:BC Wm.cells (out ++ [x.bare])=BC Wm.cells out++Y.toList:=by rw[HY.out,CZ];simp[BC]
  unfold Ck;rw[hfl,List.length_append,List.length_singleton];exact own'.base (fun k hk=>(hb6 k hk).1)
 have hk6:D6 w6 w.heap.size (k+1) (κ.set x.key out.length):=by
  have hc:Ch (fun k=>(Value.slice oo out.length oc).ownBlock=some k) w5 w6:=((Ch.refl _ _).alloc _).grown grow' (fun k hk=>.inl hk);exact H5.out.2.2.2.Af hc (fun e=>HNO.out.2 e)
 have H6:RowKit.Hid (J6 w w6 w.heap.size (.slice o6 (out ++ [x.bare]).length c6) l (out ++ [x.bare]) (k+1)):=Lib.hid ⟨by rw[HTK.out];exact .new H2.out.1.lasts HNO.out.1,by rw[List.length_append,List.length_singleton];exact hrow6,⟨_,hk6,H2.out.2.2.1.new HNO.out.1⟩,⟨Nat.le_refl _,fun e=>(hb6 _ (by rw[List.length_append,List.length_singleton] at e;exact e)).2 rfl⟩,hA6⟩;clear own' grow' loc' hA6 hb6 hrow6 hk6;go_wp2_with fail;go_roundg (gk-1)
 case measure=>have:=HKG.out;omega
 exact⟨k+1,out ++ [x.bare],by first|(simp;done)|(simp[hwk];done),by have:=HKG.out;omega,by have:=H6.out;rw[List.length_append,List.length_singleton] at this;exact this⟩
end Go.Proofs.YtngbdbpofifimaaGreat.Law9
