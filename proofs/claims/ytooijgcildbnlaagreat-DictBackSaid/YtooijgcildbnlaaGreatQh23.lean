/- Laws of the layers below. -/
import Derived.Test.YtooijgcildbnlaaGreatQh22
set_option maxHeartbeats 3200000
set_option maxRecDepth 100000
set_option linter.unusedVariables false
namespace Go.Proofs.YtooijgcildbnlaaGreat.BW
open Go.RowKit Go.Proofs.YtooijgcildbnlaaGreat.ShaW Go.Proofs.YtooijgcildbnlaaGreat.Path Go.Proofs.YtooijgcildbnlaaGreat.Store
def NL (L:List Wm) (x:Wm):Prop:=∃L1 y L2,L=L1++y::L2∧x=y.bare∧∀z∈L2,z.key≠y.key
theorem Ig {L:List Wm} {x0 x:Wm}:NL (L ++ [x0]) x↔x=x0.bare∨(NL L x∧x.key≠x0.key):=by
 constructor
 · rintro⟨L1,y,L2,e,hx,hz⟩
   rcases List.eq_nil_or_concat L2 with rfl|⟨L3,z,rfl⟩
   · have:=List.append_inj' (s₂:=L1) (t₂ := [y]) e rfl
     obtain⟨_,e2⟩:=this;injection e2 with e2;subst e2;exact .inl hx
   have e':L ++ [x0]=(L1++y::L3) ++ [z]:=by rw[e];simp
   obtain⟨e1,e2⟩:=List.append_inj' e' rfl;injection e2 with e2;subst e2;refine .inr ⟨⟨L1,y,L3,e1,hx,fun w hw=>hz w (by simp[hw])⟩,?_⟩;rw[hx,Wm.CN];exact(hz x0 (by simp)).symm
 rintro(rfl|⟨⟨L1,y,L2,rfl,rfl,hz⟩,hk⟩)
 · exact⟨L,x0,[],rfl,rfl,fun z hz=>by cases hz⟩
 refine⟨L1,y,L2 ++ [x0],by simp,rfl,fun z hm=>?_⟩;rcases List.mem_append.1 hm with hm|hm
 · exact hz z hm
 rw[List.mem_singleton.1 hm];rw[Wm.CN] at hk;exact hk.symm
theorem DE.spec {L out:List Wm} (h:DE L out):∀x,x∈out↔NL L x:=by
 induction h with
 | nil =>
  intro x;constructor
  · intro h;cases h
  rintro⟨L1,y,L2,e,_⟩;simp at e
 | @new L out x0 h hp ih =>
  intro x;rw[Ig, ←ih,List.mem_append,List.mem_singleton];constructor
  · rintro(h|h)
    · exact .inr ⟨h,hp x h⟩
    exact .inl h
  rintro(h|h)
  · exact .inr h
  exact .inl h.1
 | @old L out x0 q i h hq hk ih =>
  intro x;have hi:=(List.getElem?_eq_some_iff.1 hq).1;have hnd:=h.nodup;rw[Ig, ←ih]
  have uniq:∀j y,out[j]?=some y→y.key=x0.key→j=i:=fun j y hy e=>by
   have hj:=(List.getElem?_eq_some_iff.1 hy).1;have h1:=(List.getElem?_eq_some_iff.1 hy).2;have h2:=(List.getElem?_eq_some_iff.1 hq).2;have hpw:=List.pairwise_iff_getElem.1 hnd
   have hke:(out.map (·.key))[j]'(by simpa using hj)=(out.map (·.key))[i]'(by simpa using hi):=by
    rw[List.getElem_map,List.getElem_map,h1,h2,e,hk]
   rcases Nat.lt_trichotomy j i with h3|h3|h3
   · exact absurd hke (hpw j i (by simpa using hj) (by simpa using hi) h3)
   · exact h3
   exact absurd hke.symm (hpw i j (by simpa using hi) (by simpa using hj) h3)
  constructor
  · intro hm
    obtain⟨j,hj⟩:=List.getElem?_of_mem hm;by_cases e:i=j
    · subst e
      rw[List.getElem?_set_self hi] at hj;cases hj;exact .inl rfl
    rw[List.getElem?_set_ne e] at hj;exact .inr ⟨List.mem_of_getElem? hj,fun e2=>e (uniq j x hj e2).symm⟩
  rintro(rfl|⟨hm,hk2⟩)
  · exact List.mem_of_getElem? (List.getElem?_set_self hi)
  obtain⟨j,hj⟩:=List.getElem?_of_mem hm
  have hji:i≠j:=fun e=>by
   subst e;rw[hq] at hj;cases hj;exact hk2 hk
  exact List.mem_of_getElem? (by rw[List.getElem?_set_ne hji];exact hj)
theorem DX {l:List Wm} (h:(l.map (·.key)).Nodup):l.Nodup:=by
 induction l with
 | nil=>exact List.nodup_nil
 | cons x l ih =>
  obtain⟨h1,h2⟩:=List.nodup_cons.1 h;exact List.nodup_cons.2 ⟨fun hm=>h1 (List.mem_map_of_mem hm),ih h2⟩
theorem DE.PN {A l out:List Wm} (h:DE (A++l) out) (hA:(A.map (·.key)).Nodup) (hl:(l.map (·.key)).Nodup) (hg:∀a∈A,a.gone=false) :
 out.Perm (l.map Wm.bare++A.filter fun a => !decide (a.key∈l.map (·.key))):=by
 have hbk:(l.map Wm.bare).map (·.key)=l.map (·.key):=by rw[List.map_map];exact List.map_congr_left fun x _=>Wm.CN x
 have nd2:(l.map Wm.bare++A.filter fun a => !decide (a.key∈l.map (·.key))).Nodup:=by
  refine DX ?_;rw[List.map_append,hbk];refine List.nodup_append.2 ⟨hl,hA.sublist (List.filter_sublist.map _),fun a ha b hb e=>?_⟩;obtain⟨y,hy,rfl⟩:=List.mem_map.1 hb;have:=(List.mem_filter.1 hy).2;rw[←e] at this;simp only[Bool.not_eq_true',decide_eq_false_iff_not] at this;exact this ha
 refine(List.perm_ext_iff_of_nodup (DX h.nodup) nd2).2 fun x=>?_
 rw[h.spec,List.mem_append];constructor
 · rintro⟨L1,y,L2,e,rfl,hz⟩
   have hy:y∈A++l:=by rw[e];simp
   rcases List.append_eq_append_iff.1 e with⟨cs,e1,e2⟩|⟨bs,e1,e2⟩
   · exact .inl (List.mem_map_of_mem (by rw[e2];simp))
   match bs,e1,e2 with
   | [],e1,e2=>exact .inl (List.mem_map_of_mem (by rw[show l=y::L2 from e2.symm];simp))
   | b::bs,e1,e2 =>
    injection e2 with e3 e4;subst e3;have hyA:y∈A:=by rw[e1];simp
    have hb:y.bare=y:=by unfold Wm.bare;rw[if_neg (by rw[hg y hyA];simp)]
    rw[hb];refine .inr (List.mem_filter.2 ⟨hyA,?_⟩);simp only[Bool.not_eq_true',decide_eq_false_iff_not];intro hm;obtain⟨z,hz1,hz2⟩:=List.mem_map.1 hm;exact hz z (by rw[e4];simp[hz1]) hz2
 rintro(hm|hm)
 · obtain⟨y,hy,rfl⟩:=List.mem_map.1 hm
   obtain⟨l1,l2,e⟩:=List.append_of_mem hy;refine⟨A++l1,y,l2,by rw[e];simp,rfl,fun z hz e2=>?_⟩;rw[e,List.map_append,List.map_cons,List.nodup_append] at hl;exact(List.nodup_cons.1 hl.2.1).1 (by rw[←e2];exact List.mem_map_of_mem hz)
 obtain⟨hxA,hx⟩:=List.mem_filter.1 hm;simp only[Bool.not_eq_true',decide_eq_false_iff_not] at hx;obtain⟨a1,a2,e⟩:=List.append_of_mem hxA;refine⟨a1,x,a2++l,by rw[e];simp,?_,fun z hz e2=>?_⟩
 · unfold Wm.bare;rw[if_neg (by rw[hg x hxA];simp)]
 rcases List.mem_append.1 hz with hz|hz
 · rw[e,List.map_append,List.map_cons,List.nodup_append] at hA
   exact(List.nodup_cons.1 hA.2.1).1 (by rw[←e2];exact List.mem_map_of_mem hz)
 exact hx (by rw[←e2];exact List.mem_map_of_mem hz)
theorem J8:∀l:List Wm,((l.map Wm.bare).filter fun x => !x.gone).map Wm.ent=Fg (l.map Wm.wp)
 | []=>rfl
 | x::l=>by
  have ih:=J8 l;unfold Fg at ih ⊢;cases hg:x.gone with
  | true =>
   have hb:x.bare.gone=true:=by unfold Wm.bare;rw[if_pos hg]
   simp[hb,Wm.wp,hg];simpa using ih
  | false =>
   have hb:x.bare=x:=by unfold Wm.bare;rw[if_neg (by rw[hg];simp)]
   simp[hb,Wm.wp,hg,Wm.ent];simpa[Wm.ent] using ih
theorem Nr (l:List Wm):GB (l.map Wm.wp)=l.map (·.key):=by simp[GB,Wm.wp]
theorem DE.ents {M:AO} {A l out:List Wm} (h:DE (A++l) out) (hM:A.map Wm.ent=M) (hA:(keysOf M).Nodup) (hl:(l.map (·.key)).Nodup) (hg:∀a∈A,a.gone=false) :
 ((out.filter fun x => !x.gone).map Wm.ent).Perm (B7 M (l.map Wm.wp)):=by
 have hA':(A.map (·.key)).Nodup:=by
  have:A.map (·.key)=keysOf M:=by rw[←hM];simp[keysOf,Wm.ent]
  rw[this];exact hA
 refine((h.PN hA' hl hg).filter _ |>.map _).trans ?_;rw[List.filter_append,List.map_append,J8];unfold B7;rw[Nr, ←hM];refine List.Perm.append_left _ ?_;rw[List.filter_map,List.filter_filter];refine List.Perm.of_eq ?_
 congr 1
 refine List.filter_congr fun a ha=>?_
 rw[hg a ha];by_cases hm:a.key∈l.map (·.key)
 · have:decide (a.ent.1∈l.map (·.key))=true:=decide_eq_true hm
   simp only[Function.comp_apply,this,decide_eq_true hm];rfl
 have:decide (a.ent.1∈l.map (·.key))=false:=decide_eq_false hm;simp only[Function.comp_apply,this,decide_eq_false hm];rfl
end Go.Proofs.YtooijgcildbnlaaGreat.BW
namespace Go.Proofs.YtooijgcildbnlaaGreat.BW
open Go.RowKit Go.Sort Go.Proofs.YtooijgcildbnlaaGreat.ShaW Go.Proofs.YtooijgcildbnlaaGreat.Path Go.Proofs.YtooijgcildbnlaaGreat.Store
structure B8 (l l':List Wm):Prop where
 ex:∃out,DE l out∧l'.Perm out
 rise:DQ (l'.map Wm.ent)
theorem LU {w:World} {ao:Option Addr} {l:List Wm} (cap:Nat) (h:CB w ao l) (hn:l.length≤4096) :
 Calls Tryz.prog 202 #[.slice ao l.length cap] w fun e w'=>∃l' ao' cap',e=.returned (.slice ao' l'.length cap')∧(l'.length≤cap'∨l' = [])∧B8 l l'∧CB w' ao' l'∧Adds w w'∧∀a,ao'=some a→w.heap.size≤a.block:=by
 obtain⟨len,hlen⟩:∃len,len=l.length:=⟨_,rfl⟩
 obtain⟨ZP,hZP⟩:∃Z,Z=GN.cells:=⟨_,rfl⟩
 have hz:=Ms;rw[←hZP] at hz;have hzs:ZP.size=34:=by rw[hZP];exact Wm.size rfl
 rw[←hlen] at hn ⊢;have HL:=(hIq hlen hn)
 have HP:=Lib.hid h;have HZ:=(hIq hz hzs)
 have hmm:=@run_makeMap Tryz.prog;clear h hlen hn hz hzs hZP;go_enter Tryz.func202,Tryz.ntmps202;go_wp2;have hst:Hr w (w.alloc (.map #[] 0)) w.heap.size (.slice none 0 0) l [] 0:=⟨by rw[List.take_zero];exact .nil,Cy.nil _ _,⟨[],DH.made w,Idx.nil⟩,⟨Nat.le_refl _,fun h=>by cases h⟩,(Ch.refl _ _).alloc _⟩
 have HS0:=Lib.hid hst;clear hst hmm;go_loopg [4,6,7,8,12] len (fun g s4 s6 s7 s8 s12 wr=>∃(k:Nat) (out:List Wm),s12=.int .i64 k∧k+g=len∧Hr w wr w.heap.size s4 l out k)
 case atStart=>exact⟨0,[],rfl,by omega,HS0.out⟩
 obtain⟨k,out,rfl,hk,hst⟩:=hrel;obtain⟨oo,oc,rfl⟩:=hst.row.form;have HS:=Lib.hid hst;have HKG:=Lib.hid hk;clear HS0
 have hgo:∀x∈out,x.Good w:=fun y hy=>by
  obtain⟨x,hx,rfl⟩:=hst.lasts.mem y hy;exact Wm.Ko (HP.out.good x (List.mem_of_mem_take hx))
 have HG:=Lib.hid hgo;have hol:out.length≤k:=by have:=hst.lasts.len;rw[List.length_take] at this;omega
 have HOL:=Lib.hid hol;by_cases hkl:k=len
 · have hx1:decide ((k:Int)<(len:Int))=false:=decide_eq_false (by omega)
   have hx1':decide (k<len)=false:=decide_eq_false (by omega);have hso:=P9 hst.row (Nat.le_refl _) hgo hst.world (by have:=HL.out.2;omega);have hlast:=hst.lasts;rw[List.take_of_length_le (by have:=HL.out.1;omega)] at hlast;have HSO:=(hIq hso (aIq hlast (fun a (e:oo=some a)=>(hst.row.lt a.block (by rw[e];rfl)).1)))
   clear hk hst hgo hol hkl hso hlast;go_wp2_with fail;refine HSO.out.1.mono ?_;rintro e w3 ⟨rfl,a3,l',ao',cap',e3,s1,s2,s3,s4,s5⟩;injection e3 with e1 e2 e3;have H3:=(hIq a3 (aIq s1 (aIq s2 (aIq s3 (aIq s4 s5)))))
   have HE:=(hIq e1 e3)
   clear a3 s1 s2 s3 s4 s5 e1 e2 e3;go_wp2;go_ret;obtain⟨rfl,rfl⟩:=HE.out;exact⟨l',_,_,by rw[H3.out.2.1];rfl,H3.out.2.2.1,⟨⟨out,HSO.out.2.1,H3.out.2.2.2.1⟩,H3.out.2.2.2.2.1⟩,H3.out.2.2.2.2.2,H3.out.1,HSO.out.2.2⟩
 have hx1:decide ((k:Int)<(len:Int))=true:=decide_eq_true (by omega);have hx1':decide (k<len)=true:=decide_eq_true (by omega);have hkl':k<l.length:=by have:=HL.out.1;omega
 have hklen:(k:Int)<(len:Int):=by omega
 have hklen':k<len:=by omega
 have hwk:wrap64 ((k:Int)+1)=(k:Int)+1:=by have:=HL.out.2;unfold wrap64;omega
 obtain⟨x,hx⟩:∃x,l[k]?=some x:=⟨_,List.getElem?_eq_getElem hkl'⟩
 obtain⟨g0,off,rfl,hp⟩:=HP.out.row k x hx;have hg:=HP.out.good x (List.mem_of_getElem? hx);have hsz:=Wm.size hg.key;obtain⟨cur,ty,fr,c1,c2,c3⟩:=hp;rw[hsz] at c2 c3;obtain⟨C,hC⟩:∃C,C=x.cells:=⟨_,rfl⟩
 have hone:=Wm.one hg;have hgn:=Wm.Is hg.key;have hvl:=Wm.GJ hg.key;rw[←hC] at c3 hsz hone hgn hvl;have HC:=(hIq (hst.world.row c1 id) (aIq c2 (aIq c3 (aIq hsz hone))))
 have HX:=(hIq hx (aIq hC hg))
 have htk:l.take (k+1)=l.take k ++ [x]:=by rw[List.take_add_one,hx];rfl
 have HTK:=Lib.hid htk;have HGN:=(hIq hgn hvl)
 clear hk hkl hst hgo hol hx hg hsz c1 c2 c3 hC hone htk hgn hvl
 go_upto_region 6 with(first
  | fail
  | ((with_reducible show zOq (.load 203 _));refine AF rfl 203 _ rfl g0 (off+k*34) rfl HC.out.1 Tryz.underlying203 rfl Ds (by have:=HC.out.2.1;omega) C HC.out.2.2.1 ?_)
  | ((with_reducible show zOq (.alloc 203));refine AG rfl 203 rfl (.agg ZP) HZ.out.1 ?_;dsimp only[Value.cells];try simp only[World.size_alloc])
  | ((with_reducible show zOq (.store 203 _ _));refine AB rfl 203 _ _ rfl wr.heap.size 0 C rfl rfl (heap_alloc_new _ _) (by rw[Ds,HC.out.2.2.2.1]) (by rw[HC.out.2.2.2.1,HZ.out.2];omega) HC.out.2.2.2.2 C (by rw[AI _ _ (by rw[Array.length_toList,Array.length_toList,HC.out.2.2.2.1,HZ.out.2])]) ?_))
 refine Bs (fun wx hwx=>?_);have ax:Adds wr wx:=by rw[hwx];exact((Ch.refl _ _).alloc _).setRow (.inr (Nat.le_refl _)) _
 have rx:wx.heap[wr.heap.size]?=some (.cells C 203 (0,0)):=by rw[hwx];exact AD (heap_alloc_new wr (.cells ZP 203)) C
 have AX:=(hIq ax rx)
 obtain⟨Y,hY⟩:∃Y,Y=x.bare.cells:=⟨_,rfl⟩
 have HY:=Lib.hid hY;have q32:=AE rx HGN.out.1;have q33:=AE rx HGN.out.2;have f33:=Ac rx 33;have l33:=Ai rx;obtain⟨gb,hgb⟩:∃gb,gb=x.gone:=⟨_,rfl⟩
 rw[←hgb] at q32;have HGB:=Lib.hid hgb;clear ax rx hwx hY hgb;go_upto_if 17 with fail;go_cut [] (fun wy=>Adds wr wy∧wy.heap[wr.heap.size]?=some (.cells Y 203 (0,0)))
 case first =>
  cases gb with
  | false =>
   have hyc:Y=C:=by rw[HY.out,HX.out.2.1];unfold Wm.bare;rw[if_neg (by rw[←HGB.out];simp)]
   have HYC:=Lib.hid hyc;clear hyc;go_wp2;go_meet;exact⟨AX.out.1,by rw[HYC.out];exact AX.out.2⟩
  | true =>
   have hyc:C.setIfInBounds 33 (.slice none 0 0)=Y:=by rw[HY.out,HX.out.2.1];exact Nn HX.out.2.2.key HGB.out.symm
   have HYC:=Lib.hid hyc;clear hyc;go_wp2;go_meet;refine⟨AX.out.1.setCell (p:=⟨wr.heap.size,33,none⟩) (.inr (Nat.le_refl _)) _,?_⟩;rw[←HYC.out];exact AM AX.out.2 33 _
 obtain⟨hA,hrow⟩:=hcut;have hst2:=HS.out.adds hA;obtain⟨κ,hκ,hidx⟩:=hst2.idx;have hyg:x.bare.Good w:=Wm.Ko HX.out.2.2;have hys:=Wm.size hyg.key;have hy1:=Wm.one hyg;have hyk:=Wm.BO hyg.key;rw[Wm.CN] at hyk;rw[←HY.out] at hys hy1 hyk;obtain⟨K,hK⟩:∃K,K=AJ x.key:=⟨_,rfl⟩
 have hlk:=hκ.look HX.out.2.2.key;rw[←hK] at hyk hlk;have hbx:=hst2.bge.2;have HYY:=(hIq hrow (aIq hys (aIq hy1 hyk)))
 have H2:=(hIq hst2 (aIq hκ (aIq hidx (aIq hK hyg))))
 clear hA hrow hst2 hyg hys hy1 hyk hK hκ;by_cases hm:x.key∈κ.names
 · rw[decide_eq_true hm] at hlk
   obtain⟨q,hq,hqk⟩:=(hidx.mem _).1 hm;obtain⟨i,hi⟩:=List.getElem?_of_mem hq;have hil:=(List.getElem?_eq_some_iff.1 hi).1;have hgi:=hidx.at_ i q hi;rw[hqk] at hgi;rw[hgi] at hlk;have hso:DO Wm.cells 34 out:=fun y hy=>Wm.size (HG.out y hy).key
   obtain⟨go,co,curo,hv,hbo,hco,hgo,hso2,hxo,hset⟩:=H2.out.1.row.open hso (by omega)
   injection hv with hv1 hv2 hv3;subst hv1;subst hv3;have hset:=hset i x.bare hil (by rw[←HY.out];exact HYY.out.2.1);rw[←HY.out] at hset;have hmi:i*34+34≤out.length*34:=by have:=Nat.mul_le_mul_right 34 (show i+1≤out.length by omega);omega
   have hili:(i:Int)<(out.length:Int):=by omega
   have hi0:decide ((i:Int)<0)=false:=decide_eq_false (by omega);have hgb:go≠w.heap.size:=fun e=>hbx (by rw[e];rfl)
   have HO:=(hIq hgo (aIq (show i*34+34≤curo.size by omega) (aIq hset (aIq hi (aIq hqk (aIq hbo hgb))))))
   clear hq hqk hi hgi hso hbo hco hgo hso2 hxo hset hmi hm hidx hbx hgb
   go_wp2_with (first
    | fail
    | ((with_reducible show zOq (.load 24 _));refine AF rfl 24 _ rfl wr.heap.size 0 rfl HYY.out.1 Tryz.underlying24 rfl AV (by rw[HYY.out.2.1];omega) K HYY.out.2.2.2 ?_)
    | ((with_reducible show zOq (.load 203 _));refine AF rfl 203 _ rfl wr.heap.size 0 rfl HYY.out.1 Tryz.underlying203 rfl Ds (by rw[HYY.out.2.1];omega) Y (by have:=HYY.out.2.1;simp[←this]) ?_)
    | ((with_reducible show zOq (.store 203 _ _));go_must (refine AB rfl 203 _ _ rfl go (i*34) Y rfl rfl HO.out.1 (by rw[Ds,HYY.out.2.1]) (by rw[HYY.out.2.1];exact HO.out.2.1) HYY.out.2.2.1 _ rfl ?_)))
   go_roundg (gk-1)
   case measure=>have:=HKG.out;omega
   have hs:=H2.out.1;refine⟨k+1,out.set i x.bare,by first|(simp;done)|(simp[hwk];done),by have:=HKG.out;omega,⟨?_,HO.out.2.2.1,⟨κ,?_,H2.out.2.2.1.old HO.out.2.2.2.1 HO.out.2.2.2.2.1⟩,hs.bge,hs.world.setRow (.inr HO.out.2.2.2.2.2.1) _⟩⟩
   · rw[HTK.out];exact .old hs.lasts HO.out.2.2.2.1 HO.out.2.2.2.2.1
   obtain⟨D,⟨es,clock,hb,F,hs2,hD⟩,h2⟩:=H2.out.2.1;exact⟨D,⟨es,clock,row_setRow hb (Ne.symm HO.out.2.2.2.2.2.2) _,F,Nat.le_succ_of_le hs2,hD⟩,h2⟩
 rw[decide_eq_false hm] at hlk;have hno:∀q∈out,q.key≠x.key:=fun q hq e=>hm ((hidx.mem _).2 ⟨q,hq,e⟩)
 obtain⟨i0,z0,p1,p2,p3,p4,p5⟩:=Iu;have HI:=(hIq p1 (aIq p2 (aIq p3 (aIq p4 p5))))
 have HNO:=(hIq hno hbx)
 have hwo:(Lit.int .i64 ((out.length:Nat):Int)).wf=true:=WalkArith.wf_i64 (by have:=HOL.out;have:=HL.out.2;omega);have HWO:=Lib.hid hwo;clear hm hidx p1 p2 p3 p4 p5 hno hbx hwo
 go_upto_region 12 with(first
  | fail
  | ((with_reducible show zOq (.load 24 _));refine AF rfl 24 _ rfl wr.heap.size 0 rfl HYY.out.1 Tryz.underlying24 rfl AV (by rw[HYY.out.2.1];omega) K HYY.out.2.2.2 ?_)
  | (at_mapUpdate;refine Of H2.out.2.1 (by have:=HL.out.2;unfold maxLen;omega) rfl _ _ _ rfl rfl x.key HX.out.2.2.key (by rw[←H2.out.2.2.2.1];rfl) (out.length:Nat) rfl HWO.out ?_;intro w5 set5 ch5))
 have a5:Adds w w5:=H2.out.1.world.trans ch5 (fun k hk=>.inr (by rw[hk];exact Nat.le_refl _));have r5:Cy 203 34 Wm.cells w5 w.heap.size (.slice oo out.length oc) out:=ch5.owns H2.out.1.row (fun k hk e=>HNO.out.2 (by rw[hk,e]));have y5:w5.heap[wr.heap.size]?=some (.cells Y 203 (0,0)):=ch5.row HYY.out.1 (fun e=>by have:=HS.out.world.size;have:=Ai HYY.out.1;have h2:=HS.out.idx;obtain⟨κ2,h3,_⟩:=h2;have:=h3.lt;omega);have H5:=(hIq a5 (aIq r5 (aIq y5 set5)))
 clear a5 r5 y5 set5 ch5
 go_wp2_with (first
  | fail
  | ((with_reducible show zOq (.load 203 _));refine AF rfl 203 _ rfl wr.heap.size 0 rfl H5.out.2.2.1 Tryz.underlying203 rfl Ds (by rw[HYY.out.2.1];omega) Y (by have:=HYY.out.2.1;simp[←this]) ?_)
  | ((with_reducible show zOq (.buildSlice 199 _ _));refine A5 rfl 199 _ rfl 203 i0 z0 (.agg Y) rfl Tryz.underlying199 HI.out.1 HI.out.2.1 (by rw[HI.out.2.2.1];decide) (by rw[HI.out.2.2.1];decide) (by rw[HI.out.2.2.1];exact HYY.out.2.1) ?_)
  | (at_builtin;refine Aw rfl _ _ 199 rfl 203 i0 z0 34 64 Tryz.underlying199 HI.out.1 HI.out.2.1 HI.out.2.2.1 HI.out.2.2.2.1 HI.out.2.2.2.2 (by decide) (.slice oo out.length oc) out.length (A8 Wm.cells out) rfl ((H5.out.2.1.adds ((Ch.refl _ _).alloc _)).base (fun _ _=>Nat.zero_le _)) ⟨w5.heap.size,0,none⟩ 1 1 Y.toList rfl (by rw[Array.length_toList,HYY.out.2.1]) (Cl (heap_alloc_new w5 (.cells Y 203))) HYY.out.2.2.1 (by have:=HOL.out;have:=HL.out.2;unfold maxLen;omega) (by have:=HOL.out;have:=HL.out.2;omega) ?_;intro v' w6 own' grow' loc'))
 obtain⟨o6,c6,hv6⟩:=An own';subst hv6;have hA6:Adds w w6:=(H5.out.1.alloc _).grown grow' (fun k hk=>.inr (H5.out.2.1.lt k hk).1)
 have hb6:∀k,(Value.slice o6 (out.length+1) c6).ownBlock=some k→w.heap.size≤k∧k≠w.heap.size:=fun k hk=>by
  rcases loc' with e|e
  · rw[e] at hk
    exact⟨(H5.out.2.1.lt k hk).1,fun e2=>HNO.out.2 (by rw[hk,e2])⟩
  have h1:=e k hk;have h2:=H5.out.1.size;have h3:=H5.out.2.2.2.lt;simp at h1;omega
 have hrow6:Cy 203 34 Wm.cells w6 w.heap.size (.slice o6 (out.length+1) c6) (out ++ [x.bare]):=by
  have hfl:A8 Wm.cells (out ++ [x.bare])=A8 Wm.cells out++Y.toList:=by rw[HY.out,Cb];simp[A8]
  unfold Cy;rw[hfl,List.length_append,List.length_singleton];exact own'.base (fun k hk=>(hb6 k hk).1)
 have hk6:DH w6 w.heap.size (k+1) (κ.set x.key out.length):=by
  have hc:Ch (fun k=>(Value.slice oo out.length oc).ownBlock=some k) w5 w6:=((Ch.refl _ _).alloc _).grown grow' (fun k hk=>.inl hk);exact H5.out.2.2.2.Ae hc (fun e=>HNO.out.2 e)
 have H6:RowKit.Hid (Hr w w6 w.heap.size (.slice o6 (out ++ [x.bare]).length c6) l (out ++ [x.bare]) (k+1)):=Lib.hid ⟨by rw[HTK.out];exact .new H2.out.1.lasts HNO.out.1,by rw[List.length_append,List.length_singleton];exact hrow6,⟨_,hk6,H2.out.2.2.1.new HNO.out.1⟩,⟨Nat.le_refl _,fun e=>(hb6 _ (by rw[List.length_append,List.length_singleton] at e;exact e)).2 rfl⟩,hA6⟩;clear own' grow' loc' hA6 hb6 hrow6 hk6;go_wp2_with fail;go_roundg (gk-1)
 case measure=>have:=HKG.out;omega
 exact⟨k+1,out ++ [x.bare],by first|(simp;done)|(simp[hwk];done),by have:=HKG.out;omega,by have:=H6.out;rw[List.length_append,List.length_singleton] at this;exact this⟩
end Go.Proofs.YtooijgcildbnlaaGreat.BW
namespace Go.Proofs.YtooijgcildbnlaaGreat.Path
open Go.RowKit
def T6 (x:UInt8) (Ae:Int):UInt8:=if Ae≤0 then 255 else if Ae<8 then UInt8.ofNat (x.toNat / 2 ^ (8-Ae.toNat)*2 ^ (8-Ae.toNat)+(2 ^ (8-Ae.toNat)-1)) else x
def MU (d:Int):Int→List UInt8→List UInt8
 | _,[] => []
 | i,x::l=>T6 x (d-8*i)::MU d (i+1) l
def last (k:List UInt8) (d:Int):List UInt8:=MU d 0 k
def VF (k:List UInt8) (d:Int) (i:Nat):List UInt8:=(last k d).take i++k.drop i
end Go.Proofs.YtooijgcildbnlaaGreat.Path
namespace Go.Proofs.YtooijgcildbnlaaGreat.Store
open Go.RowKit Go.Proofs.YtooijgcildbnlaaGreat.ShaW Go.Proofs.YtooijgcildbnlaaGreat.Path
def Tr.ents:Tr→AO
 | .nil => []
 | .leaf k v => [(k,v)]
 | .node l r=>l.ents++r.ents
def Ltk (p q:List UInt8×List UInt8):Prop:=Lib.compareBytes p.1 q.1<0
def geK (key:List UInt8) (e:List UInt8×List UInt8):Bool := !decide (Lib.compareBytes e.1 key<0)
def ltK (key:List UInt8) (e:List UInt8×List UInt8):Bool:=decide (Lib.compareBytes e.1 key<0)
def Tr.from (t:Tr) (key:List UInt8):AO:=t.ents.filter (geK key)
def Tr.Du (t:Tr) (key:List UInt8):Nat:=(t.ents.filter (ltK key)).length
def KZ:List UInt8→List UInt8×Bool
 | []=>([],false)
 | x::l=>if (KZ l).2=true then (x::(KZ l).1,true) else if x=255 then (0::(KZ l).1,false) else ((x+1)::(KZ l).1,true)
end Go.Proofs.YtooijgcildbnlaaGreat.Store
namespace Go.Proofs.YtooijgcildbnlaaGreat.Store
open Go.RowKit Go.Sort Go.Proofs.YtooijgcildbnlaaGreat.ShaW Go.Proofs.YtooijgcildbnlaaGreat.Path Go.Proofs.YtooijgcildbnlaaGreat.BW
def Tr.some (t:Tr) (key:List UInt8) (most:Int):AO:=if most<0 then t.from key else (t.from key).take most.toNat
def Us (key:List UInt8) (ps:List (Int×Tr)):AO:=ps.flatMap fun p=>p.2.from key
def steps (ps:List (Int×Tr)):Nat:=(ps.map fun p=>2*p.2.nodes+1).sum
def Deep (f:View):List (Int×Tr)→Prop
 | []=>True
 | p::rest=>(∃d,rest.length≤d∧d≤256∧Rep f p.1 d p.2)∧Deep f rest
def TX (out:List Pr):Prop:=out.Pairwise fun x y=>∀k,x.vv.ownBlock=some k→y.vv.ownBlock≠some k
structure Told (base:Nat) (w:World) (v:Value) (out:List Pr):Prop where
 row:RowP w base v out
 vals:∀x∈out,x.key.length=32∧Bytes w x.vv x.val∧∀k,x.vv.ownBlock=some k→base≤k∧k<w.heap.size∧v.ownBlock≠some k
 apart:TX out
structure U1 (base:Nat) (wb wr:World) (v9 v10:Value) (out:List Pr) (st:List Int):Prop where
 told:Told base wr v9 out
 pile:wr.ownsRow base 3 1 v10 st.length (il st.reverse)
 one:∀k,v10.ownBlock=some k→v9.ownBlock≠some k∧∀x∈out,x.vv.ownBlock≠some k
 world:Adds wb wr
theorem JM (T:Array Value) (ao:Option Addr) (n c:Nat) (hT:T.size=32):Tryz.prog.built 141 [(0,.agg T),(1,.slice ao n c)]=some (T++#[.slice ao n c]):=by
 obtain⟨i,h1,h2,h3,h4⟩:=info_parts (P:=Tryz.prog) (e:=141) (z:=.agg (List.replicate 32 (Value.int .u8 0) ++ [Value.slice none 0 0]).toArray) (size:=33) (bytes:=56) (by kernel_rfl);exact Jv h1 h2 Tryz.underlying141 (by kernel_rfl) (by rfl) (.agg T) (.slice ao n c) hT rfl
section
variable {w : World} {s : Nat} {F : Nat→Prop} {σ : AA Nd} {root : Int} {t : Tr}
def VC:Array Value:=(List.replicate 32 (Value.int .u8 0) ++ [Value.slice none 0 0]).toArray
end
def Tr.DJ (t:Tr) (b:List UInt8):Nat:=if (KZ b).2=true then t.Du (KZ b).1 else t.leaves
def Tr.Uh (t:Tr) (a b:List UInt8):Int:=if Lib.compareBytes b a<0 then 0 else (t.DJ b:Int)-(t.Du a:Int)

end Go.Proofs.YtooijgcildbnlaaGreat.Store
namespace Go.Proofs.YtooijgcildbnlaaGreat.BW
open Go.RowKit Go.Sort Go.Proofs.YtooijgcildbnlaaGreat.ShaW Go.Proofs.YtooijgcildbnlaaGreat.Path Go.Proofs.YtooijgcildbnlaaGreat.Store
def Pr.wm (p:Pr):Wm:=⟨p.key,false,p.vv,p.val⟩
theorem Pr.Ep {w:World} {p:Pr} (h:p.Good w):p.wm.Good w:=⟨h.key,h.val,h.blk⟩
theorem Jd {P:Program} {t:TypeId} {it:TypeInfo} {Z:Array Value} {fields:Array Field} (hi:P.info? t=some it) (hz:it.zero=some (.agg Z)) (hu:P.underlying t=some (.struct fields))
 (hp:fields.toList.mapM (fun f=>(P.info? f.type).map fun i=>(f.offset,i.size))=some [(0,32),(32,1),(33,1)]) (hs:Z.size=34) (m x:Value) (hm:Z.toList.drop 32 = [m,x]) (T:Array Value) (v:Value) (hT:T.size=32) (hv:v.cells=#[v]) :
 P.built t [(0,.agg T),(2,v)]=some (T++#[m,v]):=by
 have hTl:T.toList.length=32:=by rw[Array.length_toList];exact hT
 have hzl:Z.toList.length=34:=by rw[Array.length_toList];exact hs
 unfold Program.built;rw[hi,hu];simp only[hz,hp];have hsl:(splice Z.toList 0 T.toList).length=34:=by rw[By _ _ _ (by omega)];exact hzl
 rw[Af (v:=.agg T) (off:=0) (size:=32) rfl hT (by show 0+32≤Z.size;omega),Af (v:=v) (off:=33) (size:=1) rfl (by rw[hv];rfl) (by show 33+1≤((splice Z.toList 0 T.toList).toArray).size;rw[List.size_toArray,hsl];omega)];simp only[Instr.fill,Option.some.injEq];apply Array.ext';rw[hv]
 show splice (splice Z.toList 0 T.toList) 33 [v]=(T++#[m,v]).toList
 rw[Array.toList_append];unfold splice;rw[List.take_zero,List.nil_append,hTl,Nat.zero_add,hm,List.take_append,List.drop_append,hTl];rw[List.take_of_length_le (by omega),List.drop_eq_nil_of_le (by simp;omega)];simp
theorem Mf (T:Array Value) (ao:Option Addr) (n c:Nat) (hT:T.size=32):Tryz.prog.built 203 [(0,.agg T),(2,.slice ao n c)]=some (T++#[.bool false,.slice ao n c]):=by
 obtain⟨i,h1,h2,h3,h4⟩:=info_parts (P:=Tryz.prog) (e:=203) (z:=.agg GN.cells) (size:=34) (bytes:=64) (by kernel_rfl);exact Jd h1 h2 Tryz.underlying203 (by kernel_rfl) (Wm.size rfl) (.bool false) (.slice none 0 0) rfl T _ hT rfl
structure ON (w wr:World) (v:Value) (all:List Wm):Prop where
 row:Cy 203 34 Wm.cells wr w.heap.size v all
 world:Adds w wr
structure Im (w wr:World) (v:Value) (l':List Wm) (out:List Pr) (k:Nat):Prop where
 row:RowP wr w.heap.size v out
 vals:∀x∈out,x.key.length=32∧Bytes wr x.vv x.val∧∀j,x.vv.ownBlock=some j→(j<wr.heap.size∧v.ownBlock≠some j)∧w.heap.size≤j
 ents:out.map Pr.ent=((l'.take k).filter fun x => !x.gone).map Wm.ent
 world:Adds w wr
theorem Im.adds {w wr w':World} {v:Value} {l':List Wm} {out:List Pr} {k:Nat} (h:Im w wr v l' out k) (a:Adds wr w'):Im w w' v l' out k :=
 ⟨h.row.adds a,fun x hx=>by obtain⟨p,q,r⟩:=h.vals x hx;exact⟨p,q.Ae a (fun _ _ h=>h),fun j hj=>⟨⟨Nat.lt_of_lt_of_le (r j hj).1.1 a.size,(r j hj).1.2⟩,(r j hj).2⟩⟩,h.ents,h.world.trans a (fun _=>fEq)⟩
theorem Im.push {w wr w2 w':World} {v v':Value} {l':List Wm} {out:List Pr} {k:Nat} {x:Wm} {p:Pr} (h:Im w wr v l' out k) (hx:l'[k]?=some x) (hg:x.gone=false) (a:Adds wr w2) (hpx:p.ent=x.ent) (hk:p.key.length=32) (hb:Bytes w2 p.vv p.val)
 (hn:∀j,p.vv.ownBlock=some j→wr.heap.size≤j∧j<w2.heap.size) {o:Obj} (ho:w'.ownsRow 0 141 33 v' (out.length+1) (Gh out++p.cells.toList)) (hgr:(w2.alloc o).grownBy w' v.ownBlock)
 (hl:v'.ownBlock=v.ownBlock∨∀j,v'.ownBlock=some j→(w2.alloc o).heap.size≤j):Im w w' v' l' (out ++ [p]) (k+1):=by
 have hc:Ch (fun k=>v.ownBlock=some k) w2 w':=((Ch.refl _ _).alloc o).grown hgr (fun k hk=>.inl hk);have hlt:∀j,v.ownBlock=some j→w.heap.size≤j∧j<wr.heap.size:=fun j hj=>h.row.lt j hj
 have hsz:=a.size
 have hv':∀j,v'.ownBlock=some j→(v.ownBlock=some j)∨w2.heap.size<j:=fun j hj=>by
  rcases hl with e|e
  · rw[e] at hj;exact .inl hj
  have:=e j hj;simp at this;exact .inr (by omega)
 refine⟨?_,fun y hy=>?_,?_,(h.world.trans a (fun _=>fEq)).trans hc (fun j hj=>.inr (hlt j hj).1)⟩
 · unfold RowP
   rw[K8,List.length_append,List.length_singleton,show Gh [p]=p.cells.toList by simp[Gh]];refine ho.base (fun j hj=>?_);rcases hv' j hj with e|e
   · exact(hlt j e).1
   have:=h.world.size;omega
 · rcases List.mem_append.1 hy with hy|hy
   · obtain⟨q1,q2,q3⟩:=h.vals y hy
     refine⟨q1,(q2.Ae a (fun _ _ h=>h)).Ae hc (fun j hj e=>(q3 j hj).1.2 e),fun j hj=>⟨⟨Nat.lt_of_lt_of_le (Nat.lt_of_lt_of_le (q3 j hj).1.1 hsz) hc.size,fun e=>?_⟩,(q3 j hj).2⟩⟩;rcases hv' j e with e2|e2
     · exact(q3 j hj).1.2 e2
     have:=(q3 j hj).1.1;omega
   obtain rfl:=List.mem_singleton.1 hy;refine⟨hk,hb.Ae hc (fun j hj e=>?_),fun j hj=>⟨⟨Nat.lt_of_lt_of_le (hn j hj).2 hc.size,fun e=>?_⟩,Nat.le_trans h.world.size (hn j hj).1⟩⟩
   · have h1:=(hn j hj).1
     have h2:=(hlt j e).2;omega
   have h1:=hn j hj;rcases hv' j e with e2|e2
   · have h2:=(hlt j e2).2;omega
   omega
 have htk:l'.take (k+1)=l'.take k ++ [x]:=by rw[List.take_add_one,hx];rfl
 rw[htk,List.filter_append,List.map_append,List.map_append,h.ents];simp[hg,hpx]
theorem Im.skip {w wr:World} {v:Value} {l':List Wm} {out:List Pr} {k:Nat} {x:Wm} (h:Im w wr v l' out k) (hx:l'[k]?=some x) (hg:x.gone=true):Im w wr v l' out (k+1):=by
 have htk:l'.take (k+1)=l'.take k ++ [x]:=by rw[List.take_add_one,hx];rfl
 exact⟨h.row,h.vals,by rw[htk,List.filter_append,h.ents];simp[hg],h.world⟩
end Go.Proofs.YtooijgcildbnlaaGreat.BW
