/- Laws of the layers below. -/
import Derived.Test.YtngbdbpofifimaaGreatQk22
set_option maxHeartbeats 3200000
set_option maxRecDepth 100000
set_option linter.unusedVariables false
namespace Go.Proofs.YtngbdbpofifimaaGreat.Law9
open Go.RowKit Go.Proofs.YtngbdbpofifimaaGreat.ShaW Go.Proofs.YtngbdbpofifimaaGreat.Path Go.Proofs.YtngbdbpofifimaaGreat.Store
def P9 (L:List Wm) (x:Wm):Prop:=∃L1 y L2,L=L1++y::L2∧x=y.bare∧∀z∈L2,z.key≠y.key
theorem Jl {L:List Wm} {x0 x:Wm}:P9 (L ++ [x0]) x↔x=x0.bare∨(P9 L x∧x.key≠x0.key):=by
 constructor
 · rintro⟨L1,y,L2,e,hx,hz⟩
   rcases List.eq_nil_or_concat L2 with rfl|⟨L3,z,rfl⟩
   · have:=List.append_inj' (s₂:=L1) (t₂ := [y]) e rfl
     obtain⟨_,e2⟩:=this;injection e2 with e2;subst e2;exact .inl hx
   have e':L ++ [x0]=(L1++y::L3) ++ [z]:=by rw[e];simp
   obtain⟨e1,e2⟩:=List.append_inj' e' rfl;injection e2 with e2;subst e2;refine .inr ⟨⟨L1,y,L3,e1,hx,fun w hw=>hz w (by simp[hw])⟩,?_⟩;rw[hx,Wm.B7];exact(hz x0 (by simp)).symm
 rintro(rfl|⟨⟨L1,y,L2,rfl,rfl,hz⟩,hk⟩)
 · exact⟨L,x0,[],rfl,rfl,fun z hz=>by cases hz⟩
 refine⟨L1,y,L2 ++ [x0],by simp,rfl,fun z hm=>?_⟩;rcases List.mem_append.1 hm with hm|hm
 · exact hz z hm
 rw[List.mem_singleton.1 hm];rw[Wm.B7] at hk;exact hk.symm
theorem DF.spec {L out:List Wm} (h:DF L out):∀x,x∈out↔P9 L x:=by
 induction h with
 | nil =>
  intro x;constructor
  · intro h;cases h
  rintro⟨L1,y,L2,e,_⟩;simp at e
 | @new L out x0 h hp ih =>
  intro x;rw[Jl, ←ih,List.mem_append,List.mem_singleton];constructor
  · rintro(h|h)
    · exact .inr ⟨h,hp x h⟩
    exact .inl h
  rintro(h|h)
  · exact .inr h
  exact .inl h.1
 | @old L out x0 q i h hq hk ih =>
  intro x;have hi:=(List.getElem?_eq_some_iff.1 hq).1;have hnd:=h.nodup;rw[Jl, ←ih]
  have uniq:∀j y,out[j]?=some y→y.key=x0.key→j=i:=fun j y hy e=>by
   have hj:=(List.getElem?_eq_some_iff.1 hy).1;have h1:=(List.getElem?_eq_some_iff.1 hy).2;have h2:=(List.getElem?_eq_some_iff.1 hq).2;have hpw:=List.pairwise_iff_getElem.1 hnd
   have hke:(out.map (·.key))[j]'(by simpa using hj)=(out.map (·.key))[i]'(by simpa using hi):=by
    rw[List.getElem_map,List.getElem_map,h1,h2,e,hk]
   rcases Nat.lt_trichotomy j i with h3|h3|h3
   · exact absurd hke (hpw j i (by simpa using hj) (by simpa using hi) h3)
   · exact h3
   exact absurd hke.symm (hpw i j (by simpa using hi) (by simpa using hj) h3)
  constructor
  · intro hm
    obtain⟨j,hj⟩:=List.getElem?_of_mem hm;by_cases e:i=j
    · subst e
      rw[List.getElem?_set_self hi] at hj;cases hj;exact .inl rfl
    rw[List.getElem?_set_ne e] at hj;exact .inr ⟨List.mem_of_getElem? hj,fun e2=>e (uniq j x hj e2).symm⟩
  rintro(rfl|⟨hm,hk2⟩)
  · exact List.mem_of_getElem? (List.getElem?_set_self hi)
  obtain⟨j,hj⟩:=List.getElem?_of_mem hm
  have hji:i≠j:=fun e=>by
   subst e;rw[hq] at hj;cases hj;exact hk2 hk
  exact List.mem_of_getElem? (by rw[List.getElem?_set_ne hji];exact hj)
theorem Dy {l:List Wm} (h:(l.map (·.key)).Nodup):l.Nodup:=by
 induction l with
 | nil=>exact List.nodup_nil
 | cons x l ih =>
  obtain⟨h1,h2⟩:=List.nodup_cons.1 h;exact List.nodup_cons.2 ⟨fun hm=>h1 (List.mem_map_of_mem hm),ih h2⟩
theorem DF.UZ {A l out:List Wm} (h:DF (A++l) out) (hA:(A.map (·.key)).Nodup) (hl:(l.map (·.key)).Nodup) (hg:∀a∈A,a.gone=false) :
 out.Perm (l.map Wm.bare++A.filter fun a => !decide (a.key∈l.map (·.key))):=by
 have hbk:(l.map Wm.bare).map (·.key)=l.map (·.key):=by rw[List.map_map];exact List.map_congr_left fun x _=>Wm.B7 x
 have nd2:(l.map Wm.bare++A.filter fun a => !decide (a.key∈l.map (·.key))).Nodup:=by
  refine Dy ?_;rw[List.map_append,hbk];refine List.nodup_append.2 ⟨hl,hA.sublist (List.filter_sublist.map _),fun a ha b hb e=>?_⟩;obtain⟨y,hy,rfl⟩:=List.mem_map.1 hb;have:=(List.mem_filter.1 hy).2;rw[←e] at this;simp only[Bool.not_eq_true',decide_eq_false_iff_not] at this;exact this ha
 refine(List.perm_ext_iff_of_nodup (Dy h.nodup) nd2).2 fun x=>?_
 rw[h.spec,List.mem_append];constructor
 · rintro⟨L1,y,L2,e,rfl,hz⟩
   have hy:y∈A++l:=by rw[e];simp
   rcases List.append_eq_append_iff.1 e with⟨cs,e1,e2⟩|⟨bs,e1,e2⟩
   · exact .inl (List.mem_map_of_mem (by rw[e2];simp))
   match bs,e1,e2 with
   | [],e1,e2=>exact .inl (List.mem_map_of_mem (by rw[show l=y::L2 from e2.symm];simp))
   | b::bs,e1,e2 =>
    injection e2 with e3 e4;subst e3;have hyA:y∈A:=by rw[e1];simp
    have hb:y.bare=y:=by unfold Wm.bare;rw[if_neg (by rw[hg y hyA];simp)]
    rw[hb];refine .inr (List.mem_filter.2 ⟨hyA,?_⟩);simp only[Bool.not_eq_true',decide_eq_false_iff_not];intro hm;obtain⟨z,hz1,hz2⟩:=List.mem_map.1 hm;exact hz z (by rw[e4];simp[hz1]) hz2
 rintro(hm|hm)
 · obtain⟨y,hy,rfl⟩:=List.mem_map.1 hm
   obtain⟨l1,l2,e⟩:=List.append_of_mem hy;refine⟨A++l1,y,l2,by rw[e];simp,rfl,fun z hz e2=>?_⟩;rw[e,List.map_append,List.map_cons,List.nodup_append] at hl;exact(List.nodup_cons.1 hl.2.1).1 (by rw[←e2];exact List.mem_map_of_mem hz)
 obtain⟨hxA,hx⟩:=List.mem_filter.1 hm;simp only[Bool.not_eq_true',decide_eq_false_iff_not] at hx;obtain⟨a1,a2,e⟩:=List.append_of_mem hxA;refine⟨a1,x,a2++l,by rw[e];simp,?_,fun z hz e2=>?_⟩
 · unfold Wm.bare;rw[if_neg (by rw[hg x hxA];simp)]
 rcases List.mem_append.1 hz with hz|hz
 · rw[e,List.map_append,List.map_cons,List.nodup_append] at hA
   exact(List.nodup_cons.1 hA.2.1).1 (by rw[←e2];exact List.mem_map_of_mem hz)
 exact hx (by rw[←e2];exact List.mem_map_of_mem hz)
theorem Lr:∀l:List Wm,((l.map Wm.bare).filter fun x => !x.gone).map Wm.ent=GZ (l.map Wm.wp)
 | []=>rfl
 | x::l=>by
  have ih:=Lr l;unfold GZ at ih ⊢;cases hg:x.gone with
  | true =>
   have hb:x.bare.gone=true:=by unfold Wm.bare;rw[if_pos hg]
   simp[hb,Wm.wp,hg];simpa using ih
  | false =>
   have hb:x.bare=x:=by unfold Wm.bare;rw[if_neg (by rw[hg];simp)]
   simp[hb,Wm.wp,hg,Wm.ent];simpa[Wm.ent] using ih
theorem QY (l:List Wm):Hi (l.map Wm.wp)=l.map (·.key):=by simp[Hi,Wm.wp]
theorem DF.ents {M:AM} {A l out:List Wm} (h:DF (A++l) out) (hM:A.map Wm.ent=M) (hA:(keysOf M).Nodup) (hl:(l.map (·.key)).Nodup) (hg:∀a∈A,a.gone=false) :
 ((out.filter fun x => !x.gone).map Wm.ent).Perm (CL M (l.map Wm.wp)):=by
 have hA':(A.map (·.key)).Nodup:=by
  have:A.map (·.key)=keysOf M:=by rw[←hM];simp[keysOf,Wm.ent]
  rw[this];exact hA
 refine((h.UZ hA' hl hg).filter _ |>.map _).trans ?_;rw[List.filter_append,List.map_append,Lr];unfold CL;rw[QY, ←hM];refine List.Perm.append_left _ ?_;rw[List.filter_map,List.filter_filter];refine List.Perm.of_eq ?_
 congr 1
 refine List.filter_congr fun a ha=>?_
 rw[hg a ha];by_cases hm:a.key∈l.map (·.key)
 · have:decide (a.ent.1∈l.map (·.key))=true:=decide_eq_true hm
   simp only[Function.comp_apply,this,decide_eq_true hm];rfl
 have:decide (a.ent.1∈l.map (·.key))=false:=decide_eq_false hm;simp only[Function.comp_apply,this,decide_eq_false hm];rfl
end Go.Proofs.YtngbdbpofifimaaGreat.Law9
namespace Go.Proofs.YtngbdbpofifimaaGreat.Law9
open Go.RowKit Go.Sort Go.Proofs.YtngbdbpofifimaaGreat.ShaW Go.Proofs.YtngbdbpofifimaaGreat.Path Go.Proofs.YtngbdbpofifimaaGreat.Store
structure Bz (l l':List Wm):Prop where
 ex:∃out,DF l out∧l'.Perm out
 rise:Du (l'.map Wm.ent)
theorem My {w:World} {ao:Option Addr} {l:List Wm} (cap:Nat) (h:CQ w ao l) (hn:l.length≤4096) :
 Calls Tryz.prog 139 #[.slice ao l.length cap] w fun e w'=>∃l' ao' cap',e=.returned (.slice ao' l'.length cap')∧(l'.length≤cap'∨l' = [])∧Bz l l'∧CQ w' ao' l'∧Adds w w'∧∀a,ao'=some a→w.heap.size≤a.block:=by
 obtain⟨len,hlen⟩:∃len,len=l.length:=⟨_,rfl⟩
 obtain⟨ZP,hZP⟩:∃Z,Z=Hs.cells:=⟨_,rfl⟩
 have hz:=P8;rw[←hZP] at hz;have hzs:ZP.size=34:=by rw[hZP];exact Wm.size rfl
 rw[←hlen] at hn ⊢;have HL:=(hIq hlen hn)
 have HP:=Lib.hid h;have HZ:=(hIq hz hzs)
 have hmm:=@run_makeMap Tryz.prog;clear h hlen hn hz hzs hZP;go_enter Tryz.func139,Tryz.ntmps139;go_wp2;have hst:JJ w (w.alloc (.map #[] 0)) w.heap.size (.slice none 0 0) l [] 0:=⟨by rw[List.take_zero];exact .nil,DV.nil _ _,⟨[],Dg.made w,Idx.nil⟩,⟨Nat.le_refl _,fun h=>by cases h⟩,(Ch.refl _ _).alloc _⟩
 have HS0:=Lib.hid hst;clear hst hmm;go_loopg [4,6,7,8,12] len (fun g s4 s6 s7 s8 s12 wr=>∃(k:Nat) (out:List Wm),s12=.int .i64 k∧k+g=len∧JJ w wr w.heap.size s4 l out k)
 case atStart=>exact⟨0,[],rfl,by omega,HS0.out⟩
 obtain⟨k,out,rfl,hk,hst⟩:=hrel;obtain⟨oo,oc,rfl⟩:=hst.row.form;have HS:=Lib.hid hst;have HKG:=Lib.hid hk;clear HS0
 have hgo:∀x∈out,x.Good w:=fun y hy=>by
  obtain⟨x,hx,rfl⟩:=hst.lasts.mem y hy;exact Wm.Ln (HP.out.good x (List.mem_of_mem_take hx))
 have HG:=Lib.hid hgo;have hol:out.length≤k:=by have:=hst.lasts.len;rw[List.length_take] at this;omega
 have HOL:=Lib.hid hol;by_cases hkl:k=len
 · have hx1:decide ((k:Int)<(len:Int))=false:=decide_eq_false (by omega)
   have hx1':decide (k<len)=false:=decide_eq_false (by omega);have hso:=SQ hst.row (Nat.le_refl _) hgo hst.world (by have:=HL.out.2;omega);have hlast:=hst.lasts;rw[List.take_of_length_le (by have:=HL.out.1;omega)] at hlast;have HSO:=(hIq hso (aIq hlast (fun a (e:oo=some a)=>(hst.row.lt a.block (by rw[e];rfl)).1)))
   clear hk hst hgo hol hkl hso hlast;go_wp2_with fail;refine HSO.out.1.mono ?_;rintro e w3 ⟨rfl,a3,l',ao',cap',e3,s1,s2,s3,s4,s5⟩;injection e3 with e1 e2 e3;have H3:=(hIq a3 (aIq s1 (aIq s2 (aIq s3 (aIq s4 s5)))))
   have HE:=(hIq e1 e3)
   clear a3 s1 s2 s3 s4 s5 e1 e2 e3;go_wp2;go_ret;obtain⟨rfl,rfl⟩:=HE.out;exact⟨l',_,_,by rw[H3.out.2.1];rfl,H3.out.2.2.1,⟨⟨out,HSO.out.2.1,H3.out.2.2.2.1⟩,H3.out.2.2.2.2.1⟩,H3.out.2.2.2.2.2,H3.out.1,HSO.out.2.2⟩
 have hx1:decide ((k:Int)<(len:Int))=true:=decide_eq_true (by omega);have hx1':decide (k<len)=true:=decide_eq_true (by omega);have hkl':k<l.length:=by have:=HL.out.1;omega
 have hklen:(k:Int)<(len:Int):=by omega
 have hklen':k<len:=by omega
 have hwk:wrap64 ((k:Int)+1)=(k:Int)+1:=by have:=HL.out.2;unfold wrap64;omega
 obtain⟨x,hx⟩:∃x,l[k]?=some x:=⟨_,List.getElem?_eq_getElem hkl'⟩
 obtain⟨g0,off,rfl,hp⟩:=HP.out.row k x hx;have hg:=HP.out.good x (List.mem_of_getElem? hx);have hsz:=Wm.size hg.key;obtain⟨cur,ty,fr,c1,c2,c3⟩:=hp;rw[hsz] at c2 c3;obtain⟨C,hC⟩:∃C,C=x.cells:=⟨_,rfl⟩
 have hone:=Wm.one hg;have hgn:=Wm.Jz hg.key;have hvl:=Wm.Hx hg.key;rw[←hC] at c3 hsz hone hgn hvl;have HC:=(hIq (hst.world.row c1 id) (aIq c2 (aIq c3 (aIq hsz hone))))
 have HX:=(hIq hx (aIq hC hg))
 have htk:l.take (k+1)=l.take k ++ [x]:=by rw[List.take_add_one,hx];rfl
 have HTK:=Lib.hid htk;have HGN:=(hIq hgn hvl)
 clear hk hkl hst hgo hol hx hg hsz c1 c2 c3 hC hone htk hgn hvl
 go_upto_region 6 with(first
  | fail
  | ((with_reducible show zOq (.load 134 _));refine AG rfl 134 _ rfl g0 (off+k*34) rfl HC.out.1 Tryz.underlying134 rfl EV (by have:=HC.out.2.1;omega) C HC.out.2.2.1 ?_)
  | ((with_reducible show zOq (.alloc 134));refine AH rfl 134 rfl (.agg ZP) HZ.out.1 ?_;dsimp only[Value.cells];try simp only[World.size_alloc])
  | ((with_reducible show zOq (.store 134 _ _));refine AD rfl 134 _ _ rfl wr.heap.size 0 C rfl rfl (heap_alloc_new _ _) (by rw[EV,HC.out.2.2.2.1]) (by rw[HC.out.2.2.2.1,HZ.out.2];omega) HC.out.2.2.2.2 C (by rw[AJ _ _ (by rw[Array.length_toList,Array.length_toList,HC.out.2.2.2.1,HZ.out.2])]) ?_))
 refine Bs (fun wx hwx=>?_);have ax:Adds wr wx:=by rw[hwx];exact((Ch.refl _ _).alloc _).setRow (.inr (Nat.le_refl _)) _
 have rx:wx.heap[wr.heap.size]?=some (.cells C 134 (0,0)):=by rw[hwx];exact AF (heap_alloc_new wr (.cells ZP 134)) C
 have AX:=(hIq ax rx)
 obtain⟨Y,hY⟩:∃Y,Y=x.bare.cells:=⟨_,rfl⟩
 have HY:=Lib.hid hY;have q32:=AE rx HGN.out.1;have q33:=AE rx HGN.out.2;have f33:=Ah rx 33;have l33:=Ag rx;obtain⟨gb,hgb⟩:∃gb,gb=x.gone:=⟨_,rfl⟩
 rw[←hgb] at q32;have HGB:=Lib.hid hgb;clear ax rx hwx hY hgb;go_upto_if 17 with fail;go_cut [] (fun wy=>Adds wr wy∧wy.heap[wr.heap.size]?=some (.cells Y 134 (0,0)))
 case first =>
  cases gb with
  | false =>
   have hyc:Y=C:=by rw[HY.out,HX.out.2.1];unfold Wm.bare;rw[if_neg (by rw[←HGB.out];simp)]
   have HYC:=Lib.hid hyc;clear hyc;go_wp2;go_meet;exact⟨AX.out.1,by rw[HYC.out];exact AX.out.2⟩
  | true =>
   have hyc:C.setIfInBounds 33 (.slice none 0 0)=Y:=by rw[HY.out,HX.out.2.1];exact Pq HX.out.2.2.key HGB.out.symm
   have HYC:=Lib.hid hyc;clear hyc;go_wp2;go_meet;refine⟨AX.out.1.setCell (p:=⟨wr.heap.size,33,none⟩) (.inr (Nat.le_refl _)) _,?_⟩;rw[←HYC.out];exact AP AX.out.2 33 _
 obtain⟨hA,hrow⟩:=hcut;have hst2:=HS.out.adds hA;obtain⟨κ,hκ,hidx⟩:=hst2.idx;have hyg:x.bare.Good w:=Wm.Ln HX.out.2.2;have hys:=Wm.size hyg.key;have hy1:=Wm.one hyg;have hyk:=Wm.BW hyg.key;rw[Wm.B7] at hyk;rw[←HY.out] at hys hy1 hyk;obtain⟨K,hK⟩:∃K,K=AK x.key:=⟨_,rfl⟩
 have hlk:=hκ.look HX.out.2.2.key;rw[←hK] at hyk hlk;have hbx:=hst2.bge.2;have HYY:=(hIq hrow (aIq hys (aIq hy1 hyk)))
 have H2:=(hIq hst2 (aIq hκ (aIq hidx (aIq hK hyg))))
 clear hA hrow hst2 hyg hys hy1 hyk hK hκ;by_cases hm:x.key∈κ.names
 · rw[decide_eq_true hm] at hlk
   obtain⟨q,hq,hqk⟩:=(hidx.mem _).1 hm;obtain⟨i,hi⟩:=List.getElem?_of_mem hq;have hil:=(List.getElem?_eq_some_iff.1 hi).1;have hgi:=hidx.at_ i q hi;rw[hqk] at hgi;rw[hgi] at hlk;have hso:Dq Wm.cells 34 out:=fun y hy=>Wm.size (HG.out y hy).key
   obtain⟨go,co,curo,hv,hbo,hco,hgo,hso2,hxo,hset⟩:=H2.out.1.row.open hso (by omega)
   injection hv with hv1 hv2 hv3;subst hv1;subst hv3;have hset:=hset i x.bare hil (by rw[←HY.out];exact HYY.out.2.1);rw[←HY.out] at hset;have hmi:i*34+34≤out.length*34:=by have:=Nat.mul_le_mul_right 34 (show i+1≤out.length by omega);omega
   have hili:(i:Int)<(out.length:Int):=by omega
   have hi0:decide ((i:Int)<0)=false:=decide_eq_false (by omega);have hgb:go≠w.heap.size:=fun e=>hbx (by rw[e];rfl)
   have HO:=(hIq hgo (aIq (show i*34+34≤curo.size by omega) (aIq hset (aIq hi (aIq hqk (aIq hbo hgb))))))
   clear hq hqk hi hgi hso hbo hco hgo hso2 hxo hset hmi hm hidx hbx hgb
   go_wp2_with (first
    | fail
    | ((with_reducible show zOq (.load 47 _));refine AG rfl 47 _ rfl wr.heap.size 0 rfl HYY.out.1 Tryz.underlying47 rfl Aa (by rw[HYY.out.2.1];omega) K HYY.out.2.2.2 ?_)
    | ((with_reducible show zOq (.load 134 _));refine AG rfl 134 _ rfl wr.heap.size 0 rfl HYY.out.1 Tryz.underlying134 rfl EV (by rw[HYY.out.2.1];omega) Y (by have:=HYY.out.2.1;simp[←this]) ?_)
    | ((with_reducible show zOq (.store 134 _ _));go_must (refine AD rfl 134 _ _ rfl go (i*34) Y rfl rfl HO.out.1 (by rw[EV,HYY.out.2.1]) (by rw[HYY.out.2.1];exact HO.out.2.1) HYY.out.2.2.1 _ rfl ?_)))
   go_roundg (gk-1)
   case measure=>have:=HKG.out;omega
   have hs:=H2.out.1;refine⟨k+1,out.set i x.bare,by first|(simp;done)|(simp[hwk];done),by have:=HKG.out;omega,⟨?_,HO.out.2.2.1,⟨κ,?_,H2.out.2.2.1.old HO.out.2.2.2.1 HO.out.2.2.2.2.1⟩,hs.bge,hs.world.setRow (.inr HO.out.2.2.2.2.2.1) _⟩⟩
   · rw[HTK.out];exact .old hs.lasts HO.out.2.2.2.1 HO.out.2.2.2.2.1
   obtain⟨D,⟨es,clock,hb,F,hs2,hD⟩,h2⟩:=H2.out.2.1;exact⟨D,⟨es,clock,row_setRow hb (Ne.symm HO.out.2.2.2.2.2.2) _,F,Nat.le_succ_of_le hs2,hD⟩,h2⟩
 rw[decide_eq_false hm] at hlk;have hno:∀q∈out,q.key≠x.key:=fun q hq e=>hm ((hidx.mem _).2 ⟨q,hq,e⟩)
 obtain⟨i0,z0,p1,p2,p3,p4,p5⟩:=J2;have HI:=(hIq p1 (aIq p2 (aIq p3 (aIq p4 p5))))
 have HNO:=(hIq hno hbx)
 have hwo:(Lit.int .i64 ((out.length:Nat):Int)).wf=true:=WalkArith.wf_i64 (by have:=HOL.out;have:=HL.out.2;omega);have HWO:=Lib.hid hwo;clear hm hidx p1 p2 p3 p4 p5 hno hbx hwo
 go_upto_region 12 with(first
  | fail
  | ((with_reducible show zOq (.load 47 _));refine AG rfl 47 _ rfl wr.heap.size 0 rfl HYY.out.1 Tryz.underlying47 rfl Aa (by rw[HYY.out.2.1];omega) K HYY.out.2.2.2 ?_)
  | (at_mapUpdate;refine SC H2.out.2.1 (by have:=HL.out.2;unfold maxLen;omega) rfl _ _ _ rfl rfl x.key HX.out.2.2.key (by rw[←H2.out.2.2.2.1];rfl) (out.length:Nat) rfl HWO.out ?_;intro w5 set5 ch5))
 have a5:Adds w w5:=H2.out.1.world.trans ch5 (fun k hk=>.inr (by rw[hk];exact Nat.le_refl _));have r5:DV 134 34 Wm.cells w5 w.heap.size (.slice oo out.length oc) out:=ch5.owns H2.out.1.row (fun k hk e=>HNO.out.2 (by rw[hk,e]));have y5:w5.heap[wr.heap.size]?=some (.cells Y 134 (0,0)):=ch5.row HYY.out.1 (fun e=>by have:=HS.out.world.size;have:=Ag HYY.out.1;have h2:=HS.out.idx;obtain⟨κ2,h3,_⟩:=h2;have:=h3.lt;omega);have H5:=(hIq a5 (aIq r5 (aIq y5 set5)))
 clear a5 r5 y5 set5 ch5
 go_wp2_with (first
  | fail
  | ((with_reducible show zOq (.load 134 _));refine AG rfl 134 _ rfl wr.heap.size 0 rfl H5.out.2.2.1 Tryz.underlying134 rfl EV (by rw[HYY.out.2.1];omega) Y (by have:=HYY.out.2.1;simp[←this]) ?_)
  | ((with_reducible show zOq (.buildSlice 132 _ _));refine BC rfl 132 _ rfl 134 i0 z0 (.agg Y) rfl Tryz.underlying132 HI.out.1 HI.out.2.1 (by rw[HI.out.2.2.1];decide) (by rw[HI.out.2.2.1];decide) (by rw[HI.out.2.2.1];exact HYY.out.2.1) ?_)
  | (at_builtin;refine As rfl _ _ 132 rfl 134 i0 z0 34 64 Tryz.underlying132 HI.out.1 HI.out.2.1 HI.out.2.2.1 HI.out.2.2.2.1 HI.out.2.2.2.2 (by decide) (.slice oo out.length oc) out.length (BF Wm.cells out) rfl ((H5.out.2.1.adds ((Ch.refl _ _).alloc _)).base (fun _ _=>Nat.zero_le _)) ⟨w5.heap.size,0,none⟩ 1 1 Y.toList rfl (by rw[Array.length_toList,HYY.out.2.1]) (CX (heap_alloc_new w5 (.cells Y 134))) HYY.out.2.2.1 (by have:=HOL.out;have:=HL.out.2;unfold maxLen;omega) (by have:=HOL.out;have:=HL.out.2;omega) ?_;intro v' w6 own' grow' loc'))
 obtain⟨o6,c6,hv6⟩:=Ad own';subst hv6;have hA6:Adds w w6:=(H5.out.1.alloc _).grown grow' (fun k hk=>.inr (H5.out.2.1.lt k hk).1)
 have hb6:∀k,(Value.slice o6 (out.length+1) c6).ownBlock=some k→w.heap.size≤k∧k≠w.heap.size:=fun k hk=>by
  rcases loc' with e|e
  · rw[e] at hk
    exact⟨(H5.out.2.1.lt k hk).1,fun e2=>HNO.out.2 (by rw[hk,e2])⟩
  have h1:=e k hk;have h2:=H5.out.1.size;have h3:=H5.out.2.2.2.lt;simp at h1;omega
 have hrow6:DV 134 34 Wm.cells w6 w.heap.size (.slice o6 (out.length+1) c6) (out ++ [x.bare]):=by
  have hfl:BF Wm.cells (out ++ [x.bare])=BF Wm.cells out++Y.toList:=by rw[HY.out,Ct];simp[BF]
  unfold DV;rw[hfl,List.length_append,List.length_singleton];exact own'.base (fun k hk=>(hb6 k hk).1)
 have hk6:Dg w6 w.heap.size (k+1) (κ.set x.key out.length):=by
  have hc:Ch (fun k=>(Value.slice oo out.length oc).ownBlock=some k) w5 w6:=((Ch.refl _ _).alloc _).grown grow' (fun k hk=>.inl hk);exact H5.out.2.2.2.Af hc (fun e=>HNO.out.2 e)
 have H6:RowKit.Hid (JJ w w6 w.heap.size (.slice o6 (out ++ [x.bare]).length c6) l (out ++ [x.bare]) (k+1)):=Lib.hid ⟨by rw[HTK.out];exact .new H2.out.1.lasts HNO.out.1,by rw[List.length_append,List.length_singleton];exact hrow6,⟨_,hk6,H2.out.2.2.1.new HNO.out.1⟩,⟨Nat.le_refl _,fun e=>(hb6 _ (by rw[List.length_append,List.length_singleton] at e;exact e)).2 rfl⟩,hA6⟩;clear own' grow' loc' hA6 hb6 hrow6 hk6;go_wp2_with fail;go_roundg (gk-1)
 case measure=>have:=HKG.out;omega
 exact⟨k+1,out ++ [x.bare],by first|(simp;done)|(simp[hwk];done),by have:=HKG.out;omega,by have:=H6.out;rw[List.length_append,List.length_singleton] at this;exact this⟩
end Go.Proofs.YtngbdbpofifimaaGreat.Law9
namespace Go.Proofs.YtngbdbpofifimaaGreat.Path
open Go.RowKit
def XA (x:UInt8) (Af:Int):UInt8:=if Af≤0 then 255 else if Af<8 then UInt8.ofNat (x.toNat / 2 ^ (8-Af.toNat)*2 ^ (8-Af.toNat)+(2 ^ (8-Af.toNat)-1)) else x
def N7 (d:Int):Int→List UInt8→List UInt8
 | _,[] => []
 | i,x::l=>XA x (d-8*i)::N7 d (i+1) l
def last (k:List UInt8) (d:Int):List UInt8:=N7 d 0 k
def YB (k:List UInt8) (d:Int) (i:Nat):List UInt8:=(last k d).take i++k.drop i
end Go.Proofs.YtngbdbpofifimaaGreat.Path
namespace Go.Proofs.YtngbdbpofifimaaGreat.Store
open Go.RowKit Go.Proofs.YtngbdbpofifimaaGreat.ShaW Go.Proofs.YtngbdbpofifimaaGreat.Path
def Tr.ents:Tr→AM
 | .nil => []
 | .leaf k v => [(k,v)]
 | .node l r=>l.ents++r.ents
theorem Tr.Ey:∀t:Tr,t.ents.length=t.leaves
 | .nil=>rfl
 | .leaf _ _=>rfl
 | .node l r=>by
  show(l.ents++r.ents).length=l.leaves+r.leaves
  rw[List.length_append,l.Ey,r.Ey]
def Ltk (p q:List UInt8×List UInt8):Prop:=Lib.compareBytes p.1 q.1<0
theorem Rep.N5 {f:View} (hz:f 0=none) {d:Nat} {t:Tr} (hr:Rep f 0 d t):t=.nil:=by
 cases hr with
 | nil=>rfl
 | leaf hn _=>rw[hz] at hn;cases hn
 | node hn _ _ _ _=>rw[hz] at hn;cases hn
theorem Rep.ents {f:View} (hf:Fit f) {h:Int} {d:Nat} {t:Tr} (hr:Rep f h d t) :
 (∀e∈t.ents,e.1.length=32∧e.2.length≤1024)∧(∀n,f h=some n→∀e∈t.ents,(n.kind=2→Pre e.1 n.key d)∧(n.kind≠2→e.1=n.key))∧t.ents.Pairwise Ltk:=by
 induction hr with
 | nil=>exact⟨fun e he=>(by cases he),fun n hn=>(by rw[hf.zero] at hn;cases hn),List.Pairwise.nil⟩
 | @leaf h d n hn hk =>
  obtain⟨_,ho⟩:=hf.leaf hn (by omega);refine⟨fun e he=>?_,fun m hm e he=>?_,List.pairwise_singleton _ _⟩
  · obtain rfl:=List.mem_singleton.1 he
    exact⟨ho.key,ho.value⟩
  obtain rfl:=List.mem_singleton.1 he;rw[hn] at hm;cases hm;exact⟨fun h2=>absurd h2 (by omega),fun _=>rfl⟩
 | @node h d n l r hn hk hd hl hr ihl ihr =>
  obtain⟨al,bl,cl⟩:=ihl;obtain⟨ar,br,cr⟩:=ihr;obtain⟨p1,p2⟩:=hf.pre hn hk hd (k:=n.key) (fun _ _=>rfl);obtain⟨q1,q2⟩:=hf.kids hn hk;have hd1:=(hf.inner hn hk).d1;have hlt:d<256:=by omega
  have left:∀e∈l.ents,Pre e.1 n.key d∧AQ e.1 d=0:=fun e he=>by
   rcases hl.live with h0|⟨y,hy⟩
   · rw[h0] at hl;rw[hl.N5 hf.zero] at he;cases he
   have hb:AQ y.key d=0:=GP hlt (by have:=(q1 y hy).2;rw[hd] at this;exact this);by_cases h2:y.kind=2
   · have hp:=(bl y hy e he).1 h2
     exact⟨(hp.less (Nat.le_succ d)).trans (p1 y hy),(hp d (Nat.lt_succ_self d)).trans hb⟩
   rw[(bl y hy e he).2 h2];exact⟨p1 y hy,hb⟩
  have right:∀e∈r.ents,Pre e.1 n.key d∧AQ e.1 d=1:=fun e he=>by
   rcases hr.live with h0|⟨y,hy⟩
   · rw[h0] at hr;rw[hr.N5 hf.zero] at he;cases he
   have hb:AQ y.key d=1:=GP hlt (by have:=(q2 y hy).2;rw[hd] at this;exact this);by_cases h2:y.kind=2
   · have hp:=(br y hy e he).1 h2
     exact⟨(hp.less (Nat.le_succ d)).trans (p2 y hy),(hp d (Nat.lt_succ_self d)).trans hb⟩
   rw[(br y hy e he).2 h2];exact⟨p2 y hy,hb⟩
  refine⟨fun e he=>(List.mem_append.1 he).elim (al e) (ar e),fun m hm e he=>?_,List.pairwise_append.2 ⟨cl,cr,fun a ha b hb=>?_⟩⟩
  · rw[hn] at hm
    cases hm;exact⟨fun _=>(List.mem_append.1 he).elim (fun h=>(left e h).1) (fun h=>(right e h).1),fun h2=>absurd hk h2⟩
  obtain⟨a1,a2⟩:=left a ha;obtain⟨b1,b2⟩:=right b hb;unfold Ltk;rw[KT a.1 b.1 d (by rw[(al a ha).1,(ar b hb).1]) (by rw[(al a ha).1];omega) (a1.trans b1.symm) a2 b2]
  decide
theorem Rep.slot {f:View} {h:Int} {d:Nat} {t:Tr} (hr:Rep f h d t):∀e∈t.ents,∃k n,f k=some n∧n.key=e.1:=by
 induction hr with
 | nil=>exact fun e he=>by cases he
 | leaf hn hk =>
  intro e he;obtain rfl:=List.mem_singleton.1 he;exact⟨_,_,hn,rfl⟩
 | node _ _ _ _ _ ihl ihr=>exact fun e he=>(List.mem_append.1 he).elim (ihl e) (ihr e)
theorem Uw {σ:AA Nd} (G:Good σ) {h:Int} {d:Nat} {t:Tr} (hr:Rep (sk σ) h d t):t.ents.length≤σ.slots.length:=by
 have hs:=hr.slot;have hp:=(hr.ents G.fit).2.2
 have hch:∃g:List UInt8×List UInt8→Int,∀e∈t.ents,∃n,sk σ (g e)=some n∧n.key=e.1:=by
  refine⟨fun e=>if he:e∈t.ents then Classical.choose (hs e he) else 0,fun e he=>?_⟩;simp only[dif_pos he];exact Classical.choose_spec (hs e he)
 obtain⟨g,hg⟩:=hch
 have hnd:(t.ents.map (fun e=>(g e).toNat)).Nodup:=by
  rw[List.Nodup,List.pairwise_map];refine hp.imp_of_mem ?_;intro a b ha hb hlt e;obtain⟨n,hn,hnk⟩:=hg a ha;obtain⟨m,hm,hmk⟩:=hg b hb;obtain⟨x,hx,_⟩:=Ec hn;obtain⟨y,hy,_⟩:=Ec hm;obtain⟨i,hi,_⟩:=AA.AU hx;obtain⟨j,hj,_⟩:=AA.AU hy;have:g a=g b:=by omega
  rw[this,hm] at hn;cases hn;unfold Ltk at hlt;rw[←hnk, ←hmk,KG] at hlt;omega
 have hsub:∀x∈t.ents.map (fun e=>(g e).toNat),x∈List.range' 1 σ.slots.length:=fun x hx=>by
  obtain⟨e,he,rfl⟩:=List.mem_map.1 hx;obtain⟨n,hn,_⟩:=hg e he;obtain⟨y,hy,_⟩:=Ec hn;obtain⟨i,hi,_,_,hlt⟩:=AA.AU hy;simp only[List.mem_range'_1];omega
 have:=B6 _ _ hnd hsub;simpa using this
theorem Kq (d:Nat):∀L:AM,(sideE 0 d L++sideE 1 d L).Perm L
 | []=>.refl _
 | p::L=>by
  have ih:=Kq d L;unfold sideE at ih ⊢;rw[List.filter_cons,List.filter_cons];rcases Am p.1 d with h|h
  · simp only[h]
    exact ih.cons p
  simp only[h];exact List.perm_middle.trans (ih.cons p)
theorem Rt:∀m,m≤256→∀ {L:AM} {k:List UInt8},L.Ok k (256-m)→(tree m L).ents.Perm L:=by
 intro m
 induction m with
 | zero =>
  intro _ L k hO
  match L,hO.few with
  | [],_=>exact .refl _
  | [p],_=>exact .refl _
  | _::_::_,hf=>simp at hf
 | succ m ih =>
  intro hm L k hO;by_cases h2:2≤L.length
  · rw[Bm h2]
    obtain⟨k0,o0⟩:=O7 hO 0;obtain⟨k1,o1⟩:=O7 hO 1;rw[show 256-(m+1)+1=256-m by omega,show 256-(m+1)=255-m by omega] at o0 o1;exact((ih (by omega) o0).append (ih (by omega) o1)).trans (Kq _ L)
  match L,h2 with
  | [],_=>exact .refl _
  | [p],_=>exact .refl _
  | _::_::_,h2=>exact absurd (by simp) h2
theorem Db.ents {σ:AA Nd} {root:Int} {L:AM} (D:Db σ root L):(tree 256 L).ents.Perm L:=Rt 256 (Nat.le_refl _) (k := []) (AM.Ok.any D.nodup D.len [])
def geK (key:List UInt8) (e:List UInt8×List UInt8):Bool := !decide (Lib.compareBytes e.1 key<0)
def ltK (key:List UInt8) (e:List UInt8×List UInt8):Bool:=decide (Lib.compareBytes e.1 key<0)
def Tr.from (t:Tr) (key:List UInt8):AM:=t.ents.filter (geK key)
def Tr.DS (t:Tr) (key:List UInt8):Nat:=(t.ents.filter (ltK key)).length
def ME:List UInt8→List UInt8×Bool
 | []=>([],false)
 | x::l=>if (ME l).2=true then (x::(ME l).1,true) else if x=255 then (0::(ME l).1,false) else ((x+1)::(ME l).1,true)
end Go.Proofs.YtngbdbpofifimaaGreat.Store
namespace Go.Proofs.YtngbdbpofifimaaGreat.Store
open Go.RowKit Go.Sort Go.Proofs.YtngbdbpofifimaaGreat.ShaW Go.Proofs.YtngbdbpofifimaaGreat.Path
theorem DI {w:World} {s:Nat} {F:Nat→Prop} {σ:AA Nd} (h:At w s F σ) (G:Good σ) {n:Int} {d:Nat} {t:Tr} (hr:Rep (sk σ) n d t):(nd σ n).size=(t.leaves:Int)∧t.leaves≤65536:=by
 have h1:=hr.size G.fit;rw[EN] at h1;have h2:=Uw G hr;rw[Tr.Ey] at h2;have:=h.len;have:=h.room;refine⟨?_,by omega⟩
 show(stat (nd σ n)).size=_
 rw[h1];unfold wrap64;omega
end Go.Proofs.YtngbdbpofifimaaGreat.Store
namespace Go.Proofs.YtngbdbpofifimaaGreat.Store
open Go.RowKit Go.Sort Go.Proofs.YtngbdbpofifimaaGreat.ShaW Go.Proofs.YtngbdbpofifimaaGreat.Path Go.Proofs.YtngbdbpofifimaaGreat.Law9
def Tr.some (t:Tr) (key:List UInt8) (most:Int):AM:=if most<0 then t.from key else (t.from key).take most.toNat
def Xm (key:List UInt8) (ps:List (Int×Tr)):AM:=ps.flatMap fun p=>p.2.from key
def steps (ps:List (Int×Tr)):Nat:=(ps.map fun p=>2*p.2.nodes+1).sum
def Deep (f:View):List (Int×Tr)→Prop
 | []=>True
 | p::rest=>(∃d,rest.length≤d∧d≤256∧Rep f p.1 d p.2)∧Deep f rest
def WH (out:List Pr):Prop:=out.Pairwise fun x y=>∀k,x.vv.ownBlock=some k→y.vv.ownBlock≠some k
structure Told (base:Nat) (w:World) (v:Value) (out:List Pr):Prop where
 row:LP w base v out
 vals:∀x∈out,x.key.length=32∧Bytes w x.vv x.val∧∀k,x.vv.ownBlock=some k→base≤k∧k<w.heap.size∧v.ownBlock≠some k
 apart:WH out
structure Xq (base:Nat) (wb wr:World) (v9 v10:Value) (out:List Pr) (st:List Int):Prop where
 told:Told base wr v9 out
 pile:wr.ownsRow base 3 1 v10 st.length (il st.reverse)
 one:∀k,v10.ownBlock=some k→v9.ownBlock≠some k∧∀x∈out,x.vv.ownBlock≠some k
 world:Adds wb wr
theorem Kr (T:Array Value) (ao:Option Addr) (n c:Nat) (hT:T.size=32):Tryz.prog.built 86 [(0,.agg T),(1,.slice ao n c)]=some (T++#[.slice ao n c]):=by
 obtain⟨i,h1,h2,h3,h4⟩:=info_parts (P:=Tryz.prog) (e:=86) (z:=.agg (List.replicate 32 (Value.int .u8 0) ++ [Value.slice none 0 0]).toArray) (size:=33) (bytes:=56) (by kernel_rfl);exact LJ h1 h2 Tryz.underlying86 (by kernel_rfl) (by rfl) (.agg T) (.slice ao n c) hT rfl
section
variable {w : World} {s : Nat} {F : Nat→Prop} {σ : AA Nd} {root : Int} {t : Tr}
theorem Rc (h:At w s F σ) (G:Good σ) (hr:Rep (sk σ) root 0 t) (h0:Ap σ root=0) :
 Calls Tryz.prog 72 #[.pointer (some ⟨s,0,none⟩),.int .i64 root] w fun e w'=>e=.returned (.tuple #[.int .i64 (t.leaves:Nat),.int .i64 0])∧Adds w w':=by
 have hrt:=Store.GC h root;rw[h0] at hrt;have hsz:=fun w1 (a:Adds w w1)=>Uk (h.adds a) root
 rw[(DI h G hr).1] at hsz;have HR:=Lib.hid hrt;have HS:=Lib.hid hsz;clear h G hr h0 hrt hsz;go_enter Tryz.func72,Tryz.ntmps72;go_wp2_with fail;refine HR.out.mono ?_;rintro e w1 ⟨rfl,a1⟩;have A1:=Lib.hid a1;clear a1;go_wp2_with fail;refine(HS.out _ A1.out).mono ?_;rintro e w2 ⟨rfl,a2⟩;have A2:=Lib.hid (A1.out.trans a2 (fun _=>fEq));clear a2;go_wp2_with fail;go_ret2;exact⟨rfl,A2.out⟩
def X9:Array Value:=(List.replicate 32 (Value.int .u8 0) ++ [Value.slice none 0 0]).toArray
end
def Tr.Dm (t:Tr) (b:List UInt8):Nat:=if (ME b).2=true then t.DS (ME b).1 else t.leaves
def Tr.Xk (t:Tr) (a b:List UInt8):Int:=if Lib.compareBytes b a<0 then 0 else (t.Dm b:Int)-(t.DS a:Int)

end Go.Proofs.YtngbdbpofifimaaGreat.Store
