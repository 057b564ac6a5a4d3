/- Laws of the layers below. -/
import Derived.Test.YtngbdbpofifimaaGreatQm39
set_option maxHeartbeats 3200000
set_option maxRecDepth 100000
set_option linter.unusedVariables false
namespace Go.Proofs.YtngbdbpofifimaaGreat.Store
open Go.RowKit Go.Sort Go.Proofs.YtngbdbpofifimaaGreat.ShaW Go.Proofs.YtngbdbpofifimaaGreat.Path Go.Proofs.YtngbdbpofifimaaGreat.Tag
theorem Qs:∃i,Tryz.prog.info? 29=some i∧i.zero=some (.slice none 0 0)∧i.size=1∧i.bytes=24:=by
 obtain⟨i,h1,h2⟩:=Option.map_eq_some_iff.1 (by kernel_rfl:(Tryz.prog.info? 29).map (fun i=>(i.zero,i.size,i.bytes))=some (some (.slice none 0 0),1,24));simp only[Prod.mk.injEq] at h2;exact⟨i,h1,h2.1,h2.2.1,h2.2.2⟩
def XI (w:World) (vs:List Value) (ps:List (List UInt8)):Prop:=vs.length=ps.length∧∀(i:Nat) v p,vs[i]?=some v→ps[i]?=some p→Bytes w v p∧(p ≠ []→∀k,v.ownBlock=some k→k<w.heap.size)
theorem Gl {w:World} {ops:Array Oper} {rest:List Oper} {o:Oper} {a:Act} {Q:Exit→Act→World→Prop} (hgd:o.guard=none) (s x:Operand)
 (ho:o.op=.call { callee:=.builtin .append,args:=#[s,x],argTypes:=#[73,73] }) (v:Value) (n:Nat) (xs:List Value) (hs:a.eval s=v) (hown:w.ownsRow 0 29 1 v n xs)
 (ao:Option Addr) (m c:Nat) (l:List Value) (hx:a.eval x=.slice ao m c) (hm:l.length=m) (hI:∀i u,l[i]?=some u→∃g off,ao=some ⟨g,off,none⟩∧w.cell? ⟨g,off+i,none⟩=some u∧u.oneCell'=true) (hb:n+m≤1000000)
 (h:∀v' w',w'.ownsRow 0 29 1 v' (n+m) (xs++l)→w.grownBy w' v.ownBlock→(v'.ownBlock=v.ownBlock∨∀k,v'.ownBlock=some k→w.heap.size≤k)→wpList Tryz.prog ops Q rest (a.put o.dst v') w'):wpList Tryz.prog ops Q (o::rest) a w:=by
 obtain⟨i0,p1,p2,p3,p4⟩:=Qs;rcases Nat.eq_zero_or_pos m with h0|h0
 · have hnil:l = []:=List.eq_nil_of_length_eq_zero (by omega)
   subst hnil;subst h0
   obtain⟨base,cap,e,hle⟩:∃base cap,v=.slice base n cap∧n≤cap:=by
    rcases hown.2 with⟨rfl,h1⟩|⟨g,cap,cur,rfl,_,_,h3,_⟩
    · exact⟨none,0,by rw[h1],by omega⟩
    exact⟨_,cap,rfl,h3⟩
   have hsrc:Src Tryz.prog i0.size 73 (.slice ao 0 c) 0 [] w:=by
    cases ao with
    | none=>exact Src.ofNil w Tryz.underlying73 c
    | some ad=>exact Src.ofSlice w Tryz.underlying73 ad 0 c [] (by simp) (fun j u hu=>by simp at hu) (fun u hu=>by cases hu)
   refine wpList_plain hgd fun _ hK=>?_
   have hrun:=run_append_nothing (P:=Tryz.prog) w 73 73 o.type 29 i0 Tryz.underlying73 p1 base n cap hle _ hsrc;subst e;unfold Oper.wp;simp[execOp,ho,resolve,invoke,builtin,hs,hx,hrun,Result.andThen];exact hK _ _ (h _ w (by rw[List.append_nil];exact hown) ⟨rfl,rfl,rfl,Nat.le_refl _,fun _ _ _=>rfl⟩ (.inl rfl))
 obtain⟨g,off,rfl,_⟩:=hI 0 l[0] (List.getElem?_eq_getElem (by omega));refine BI hgd s x 73 ho 29 i0 (.slice none 0 0) 1 24 Tryz.underlying73 p1 p2 p3 p4 rfl (by decide) v n xs hs hown ⟨g,off,none⟩ m c l hx (by simp[hm]) (fun j u hu=>?_) (fun u hu=>?_) (by unfold maxLen;omega) (by omega) h
 · obtain⟨g',off',e,hc,_⟩:=hI j u hu
   cases e;rw[add_plain];exact hc
 obtain⟨i,hi⟩:=List.getElem?_of_mem hu;obtain⟨_,_,_,_,h1⟩:=hI i u hi;exact h1

end Go.Proofs.YtngbdbpofifimaaGreat.Store
namespace Go.Proofs.YtngbdbpofifimaaGreat.Store
open Go.RowKit Go.Sort Go.Proofs.YtngbdbpofifimaaGreat.ShaW Go.Proofs.YtngbdbpofifimaaGreat.Path Go.Proofs.YtngbdbpofifimaaGreat.Bk
def vals (ls:Nat→List Pr) (i:Nat):List Value:=(List.range i).flatMap fun j=>(ls j).map (·.vv)
theorem Le (ls:Nat→List Pr) (i:Nat):vals ls (i+1)=vals ls i++(ls i).map (·.vv):=by simp[vals,List.range_succ]
structure VI (w wr:World) (v:Value) (xs:List Value):Prop where
 own:wr.ownsRow 0 29 1 v xs.length xs
 new:∀k,v.ownBlock=some k→w.heap.size≤k
 adds:AN w wr
theorem ValuesOf_ok {w:World} {gl:Nat} {cp:Nat→Nat} {ao:Nat→Option Addr} {ls:Nat→List Pr} (hrow:w.heap[gl]?=some (.cells #[.slice (ao 0) (ls 0).length (cp 0),.slice (ao 1) (ls 1).length (cp 1)] 56 (0,0)))
 (hp:∀j,j<2→Ba w (ao j) (ls j)) (hl:∀j,j<2→(ls j).length≤300) :
 Calls Tryz.prog 30 #[.slice (some ⟨gl,0,none⟩) 2 2] w fun e w'=>∃v,e=.returned v∧VI w w' v (vals ls 2):=by
 have HP:=Lib.hid hp;have HL:=Lib.hid hl;have HR:=Lib.hid hrow;have hv0:(vals ls 0).length≤300*0:=by simp[vals]
 have hv1:(vals ls 1).length≤300*1:=by rw[Le,List.length_append,List.length_map];have:=hl 0 (by omega);omega
 have HV01:=(hIq hv0 hv1)
 clear hp hl hrow hv0 hv1;go_enter Tryz.func30,Tryz.ntmps30;go_wp2;go_loopg [3,4,5] 2 (fun g s3 s4 s5 wr=>∃i:Nat,i≤2∧g=2-i∧s4=.int .i64 i∧VI w wr s3 (vals ls i))
 case atStart=>exact⟨0,Nat.zero_le _,rfl,rfl,⟨rfl,.inl ⟨rfl,rfl⟩⟩,fun k hk=>(by cases hk),Ch.refl _ _⟩
 obtain⟨i,hi,rfl,rfl,hV⟩:=hrel;have HV:=Lib.hid hV;clear hV;by_cases hlt:i<2
 · have hi2:(i:Int)<2:=by omega
   have hwi:wrap64 ((i:Int)+1)=(i:Int)+1:=by unfold wrap64;omega
   obtain⟨n,hn⟩:∃n,n=(ls i).length:=⟨_,rfl⟩
   obtain⟨al,hal⟩:∃al,al=ao i:=⟨_,rfl⟩
   obtain⟨c,hc⟩:∃c,c=cp i:=⟨_,rfl⟩
   have hget:∀wx,AN w wx→wx.cell? ⟨gl,i,none⟩=some (.slice al n c):=fun wx a=>by
    rw[hn,hal,hc];refine AH (a.row HR.out id) ?_;have:i=0∨i=1:=by omega
    rcases this with rfl|rfl<;>rfl
   have hn3:n≤300:=by rw[hn];exact HL.out i hlt
   have hv3:(vals ls i).length≤300:=by
    have:i=0∨i=1:=by omega
    rcases this with rfl|rfl
    · have:=HV01.out.1;omega
    have:=HV01.out.2;omega
   have HG:=(hIq hget (aIq hn (aIq hal hv3)))
   clear hget hn hal hc hv3;go_wp2;go_loopg [3,5] n (fun g s3 s5 wx=>∃k:Nat,k≤n∧g=n-k∧s5=.int .i64 k∧VI w wx s3 (vals ls i++((ls i).take k).map (·.vv)))
   case atStart=>exact⟨0,Nat.zero_le _,rfl,rfl,by simpa using HV.out⟩
   obtain⟨k,hk,rfl,rfl,hV2⟩:=hrel;have hcw:=HG.out.1 _ hV2.adds;have HV2:=Lib.hid hV2;clear hV2;by_cases hkl:k<n
   · have hk2:(k:Int)<(n:Int):=by omega
     have hwk:wrap64 ((k:Int)+1)=(k:Int)+1:=by unfold wrap64;omega
     obtain⟨x,hx⟩:∃x,(ls i)[k]?=some x:=⟨_,List.getElem?_eq_getElem (by have:=HG.out.2.1;omega)⟩
     have hpw:=(HP.out i hlt).Ae HV2.out.adds (fun _=>fEq);have gz:=hpw.1 x (List.mem_of_getElem? hx);obtain⟨g,off,ea,cur,ty,fr,a1,a2,a3⟩:=hpw.2 k x hx;rw[Pr.size gz.key] at a2 a3;obtain⟨_,av⟩:=CG gz.key a3;have c1:=AH a1 av;obtain⟨xo,xc,hxs,_⟩:=gz.val.form;obtain rfl:al=some ⟨g,off,none⟩:=HG.out.2.2.1.trans ea;obtain⟨m,hm⟩:∃m,m=x.val.length:=⟨_,rfl⟩
     rw[←hm] at hxs;rw[hxs] at c1;obtain⟨xs,hxe⟩:∃xs,xs=vals ls i++((ls i).take k).map (·.vv):=⟨_,rfl⟩
     rw[←hxe] at HV2
     have hxl:xs.length≤600:=by
      rw[hxe,List.length_append,List.length_map,List.length_take];have:=HG.out.2.2.2;omega
     have hnext:vals ls i++((ls i).take (k+1)).map (·.vv)=xs ++ [.slice xo m xc]:=by
      rw[List.take_add_one,hx,List.map_append, ←List.append_assoc, ←hxe, ←hxs];rfl
     have HN:=(hIq hxl hnext)
     have HA1:=(hIq a1 a2)
     have hg0:=Ad a1;clear hpw gz ea a1 a3 av hxs hm hxe hxl hnext hx
     go_wp2_with (first
      | fail
      | (at_builtin;refine Gl rfl _ _ rfl u3 xs.length xs rfl (((Ch.refl (fun _=>False) _).alloc _).owns HV2.out.own (fun _ _ h=>h)) (some ⟨wr.heap.size,0,none⟩) 1 1 [.slice xo m xc] rfl rfl (fun j u hu=>⟨wr.heap.size,0,rfl,by
       have hj:=(List.getElem?_eq_some_iff.1 hu).1;simp at hj;subst hj;obtain rfl:Value.slice xo m xc=u:=by simpa using hu
       exact⟨AH (heap_alloc_new _ _) rfl,rfl⟩⟩) (by have:=HN.out.1;omega) ?_;intro v' w4 own' grow' loc'))
     have hV4:VI w w4 v' (xs ++ [.slice xo m xc]):=by
      refine⟨by rw[List.length_append,List.length_singleton];exact own',fun j hj=>?_,(HV2.out.adds.alloc _).grown grow' (fun j hj=>.inr (HV2.out.new j hj))⟩;rcases loc' with e|e
      · rw[e] at hj;exact HV2.out.new j hj
      have:=e j hj;have:=HV2.out.adds.size;simp at *;omega
     have H4:=Lib.hid hV4;clear own' grow' loc' hV4;go_wp2;go_roundg (n-(k+1))
     case measure=>omega
     exact⟨k+1,by omega,rfl,by first|go_num|(congr 1;omega)|rfl,by rw[HN.out.2];exact H4.out⟩
   have hk2:¬(k:Int)<(n:Int):=by omega
   have hV3:VI w wr u3 (vals ls (i+1)):=by
    rw[Le];have:=HV2.out
    rwa [List.take_of_length_le (by have:=HG.out.2.1;omega)] at this
   have H3:=Lib.hid hV3;clear hV3;go_wp2;go_roundg (2-(i+1))
   case measure=>omega
   exact⟨i+1,by omega,rfl,by first|go_num|(congr 1;omega)|rfl,H3.out⟩
 have hin:i=2:=by omega
 have hi2:¬(i:Int)<2:=by omega
 rw[hin] at HV;go_wp2;go_ret;exact⟨_,rfl,HV.out⟩
end Go.Proofs.YtngbdbpofifimaaGreat.Store
namespace Go.Proofs.YtngbdbpofifimaaGreat.Store
open Go.RowKit Go.Proofs.YtngbdbpofifimaaGreat.ShaW Go.Proofs.YtngbdbpofifimaaGreat.Path Go.Proofs.YtngbdbpofifimaaGreat.Bk
section
variable {w w' : World} {x : Value} {all : List UInt8}
def LsN (n:Nat) (ls:Nat→Value) (bf:Nat→List UInt8) (gl:Nat) (cur:Array Value) (wz:World):Prop:=(∀j,j<n→Fx wz (ls j) (bf j))∧wz.heap[gl]?=some (.cells cur 29 (0,0))
theorem LsN.Ae {n:Nat} {ls:Nat→Value} {bf:Nat→List UInt8} {gl:Nat} {cur:Array Value} (h:LsN n ls bf gl cur w) {C:Nat→Prop} (c:Ch C w w') (hd:∀j k,j<n→(ls j).ownBlock=some k→¬C k) (hg:¬C gl):LsN n ls bf gl cur w' :=
 ⟨fun j hj=>(h.1 j hj).Ae c (fun k hk=>hd j k hj hk),c.row h.2 hg⟩
theorem LsN.adds {n:Nat} {ls:Nat→Value} {bf:Nat→List UInt8} {gl:Nat} {cur:Array Value} (h:LsN n ls bf gl cur w) (c:AN w w'):LsN n ls bf gl cur w':=h.Ae c (fun _ _ _ _ h=>h) id
theorem QI {n cp:Nat} {ls:Nat→Value} {bf:Nat→List UInt8} {gl:Nat} {cur:Array Value} (hn1:1≤n) (hn2:n≤1000) (hcur:∀j,j<n→cur[j]?=some (ls j)) (h:LsN n ls bf gl cur w) (hd:∀i j k,i<n→j<n→i≠j→(ls i).ownBlock=some k→(ls j).ownBlock≠some k) (hgl:∀j,j<n→(ls j).ownBlock≠some gl) :
 Calls Tryz.prog 29 #[.slice (some ⟨gl,0,none⟩) n cp] w fun e w'=>e=.returned (.bool true)∧Ch (fun k=>∃j,j<n∧(ls j).ownBlock=some k) w w'∧∃bf',LsN n ls bf' gl cur w':=by
 have hmk:∀w:World,(Instr.makeSlice 137 (.int .i64 n) (.int .i64 n)).run Tryz.prog w=.ok (.slice (some ⟨w.heap.size,0,none⟩) n n) (w.alloc (.cells (madeCells #[.string ByteArray.empty] n) 9)):=fun w =>
  run_make_row' 137 9 (.string ByteArray.empty) 16 Tryz.underlying137 (by kernel_rfl) rfl .i64 .i64 n (by omega) (by omega) w
 obtain⟨MC,hMC⟩:∃MC,MC=madeCells #[Value.string ByteArray.empty] n:=⟨_,rfl⟩
 have hMs:MC.size=n:=by rw[hMC];exact size_madeCells _ _
 rw[←hMC] at hmk;have HM:=Lib.hid hMs;have HC0:=Lib.hid hcur;have HH:=Lib.hid h;have HD:=(hIq hd hgl)
 have lgl:=Ad h.2;clear hMC hMs h hd hgl hcur;go_enter Tryz.func29,Tryz.ntmps29;go_wp2;go_loopg [3,4,5,6] n (fun g s3 s4 s5 s6 wr=>∃(i:Nat) (af:Nat→List UInt8),i≤n∧g=n-i∧s3=.int .i64 i∧LsN n ls af gl cur wr∧Ch (fun k=>∃j,j<n∧(ls j).ownBlock=some k) w wr)
 case atStart=>exact⟨0,bf,Nat.zero_le _,rfl,rfl,HH.out,Ch.refl _ _⟩
 obtain⟨i,af,hi,rfl,rfl,hL,hC⟩:=hrel;have HL:=(hIq hL hC)
 clear hL hC;by_cases hlt:i<n
 · have hi2:(i:Int)<(n:Int):=by omega
   have hwi:wrap64 ((i:Int)+1)=(i:Int)+1:=by unfold wrap64;omega
   go_wp2;obtain⟨w1,hw1⟩:∃w1,w1=wr.alloc (.cells MC 9):=⟨_,rfl⟩
   try rw[←hw1]
   have a1:AN wr w1:=by rw[hw1];exact(Ch.refl _ _).alloc _
   have r1:w1.heap[wr.heap.size]?=some (.cells MC 9 (0,0)):=by rw[hw1];exact heap_alloc_new _ _
   have H1:=(hIq a1 r1)
   clear a1 r1 hw1;obtain⟨gw,hgw⟩:∃gw,gw=wr.heap.size:=⟨_,rfl⟩
   rw[←hgw] at H1 ⊢
   have hne:gw≠gl∧∀j k,j<n→(ls j).ownBlock=some k→k<gw:=by
    rw[hgw];refine⟨fun e=>by have:=Ad HL.out.1.2;omega,fun j k hj hk=>?_⟩;rcases HL.out.1.1 j hj with⟨e,_⟩|⟨g,m,e,_,_,h3⟩
    · rw[e] at hk;cases hk
    rw[e] at hk;cases hk;exact Ad h3
   have hwg:w.heap.size≤gw:=by rw[hgw];exact HL.out.2.size
   have HNE:=(hIq hne hwg)
   have HL1:=(hIq (HL.out.1.adds H1.out.1) (HL.out.2.trans H1.out.1 (fun _=>fEq)))
   clear hgw hne hwg;go_loopg [5] n (fun g s5 wx=>∃(k:Nat) (SS:Array Value),k≤n∧g=n-k∧s5=.int .i64 k∧SS.size=n∧(∀j,j<k→SS[j]?=some (.string (GF (af j))))∧wx.heap[gw]?=some (.cells SS 9 (0,0))∧Ch (fun k=>k=gw) w1 wx)
   case atStart=>exact⟨0,MC,Nat.zero_le _,rfl,rfl,HM.out,fun j hj=>absurd hj (Nat.not_lt_zero j),H1.out.2,Ch.refl _ _⟩
   obtain⟨k,SS,hk,rfl,rfl,hsz,hin,hrow,hch⟩:=hrel;have hLx:LsN n ls af gl cur wr:=HL1.out.1.Ae hch (fun j k hj hk e=>by have:=HNE.out.1.2 j k hj hk;omega) (fun e=>HNE.out.1.1 e.symm);have HX:=(hIq hLx (aIq hch (aIq hsz (aIq hin hrow))))
   clear hLx hch hsz hin hrow;by_cases hkl:k<n
   · have hk2:(k:Int)<(n:Int):=by omega
     have hwk:wrap64 ((k:Int)+1)=(k:Int)+1:=by unfold wrap64;omega
     obtain⟨ao,m,hform,hcap⟩:=(HX.out.1.1 k hkl).form;have hcut:=fun w1=>(HX.out.1.1 k hkl).cut w1
     have hconv:=fun wz (hz:LsN n ls af gl cur wz)=>(hz.1 k hkl).conv
     have hget:∀wz,LsN n ls af gl cur wz→wz.cell? ⟨gl,k,none⟩=some (ls k):=fun wz hz=>AH hz.2 (HC0.out k hkl)
     obtain⟨V,hV⟩:∃V,V=Lx (ls k):=⟨_,rfl⟩
     rw[←hV] at hcut hconv;obtain⟨T,hT⟩:∃T,T=GF (af k):=⟨_,rfl⟩
     rw[←hT] at hconv;rw[hform] at hget hcut;obtain⟨cl,hcl⟩:∃cl,cl=(af k).length:=⟨_,rfl⟩
     rw[←hcl] at hget hcut hcap;obtain⟨old,hold⟩:∃old,SS[k]?=some old:=⟨_,Array.getElem?_eq_getElem (by rw[HX.out.2.2.1];exact hkl)⟩
     have HGT:=Lib.hid hget;have HCT:=Lib.hid hcut;have HCV:=Lib.hid hconv;have HT:=(hIq hT hold)
     clear hcl hT hV hform hget hcut hconv hold;go_wp2;refine AP (fun wz=>LsN n ls af gl cur wz) 13 [(0,false),(1,false),(2,false),(3,false),(4,false),(5,false),(6,false),(7,false),(8,false),(9,false),(10,false),(11,false),(12,false)] (by kernel_rfl) (by kernel_rfl) ?_ ?_
     · exact HX.out.1.adds (Ch.refl _ _).drew
     iterate 5
      refine plan_look rfl rfl (fun w0 hS=>(by clear hS;go_simp;try rfl)) ?_;simp only[Act.put,nAq,nBq,nCq]
     refine plan_look (v:=.slice ao m cl) rfl rfl (fun w0 hS=>(by have c1:=HGT.out w0 hS;clear hS;go_simp;try rfl)) ?_;simp only[Act.put,nAq,nBq,nCq]
     iterate 3
      refine plan_look rfl rfl (fun w0 hS=>(by clear hS;go_simp;try rfl)) ?_;simp only[Act.put,nAq,nBq,nCq]
     refine plan_look (v:=.slice ao m cl) rfl rfl (fun w0 hS=>(by have c1:=HGT.out w0 hS;clear hS;go_simp;try rfl)) ?_;simp only[Act.put,nAq,nBq,nCq];refine plan_look (v:=.int .i64 (cl:Int)) rfl rfl (fun w0 hS=>(by clear hS;go_simp;try rfl)) ?_;simp only[Act.put,nAq,nBq,nCq];refine plan_look (v:=V) rfl rfl (fun w0 hS=>(by have q:=HCT.out w0;clear hS;go_simp;try rfl)) ?_;simp only[Act.put,nAq,nBq,nCq];refine DW rfl rfl 29 9 (.tmp 33) (.string T) rfl V rfl (fun w0 hS=>HCV.out w0 hS) ?_;simp only[Act.put,nAq,nBq,nCq];refine AZ ?_;simp only[List.drop_succ_cons,List.drop_zero];have c1:=AH (AM HX.out.2.2.2.2) HT.out.2;have f1:=Ai (AM HX.out.2.2.2.2) k;have l1:=Ad (AM HX.out.2.2.2.2);go_wp2;refine NoPanic.normal ?_;go_wp2;go_roundg (n-(k+1))
     case measure=>omega
     refine⟨k+1,SS.setIfInBounds k (.string T),by omega,rfl,by first|go_num|(congr 1;omega)|rfl,by rw[Array.size_setIfInBounds];exact HX.out.2.2.1,fun j hj=>?_,AV (AM HX.out.2.2.2.2) k _,(HX.out.2.1.drew).setCell (p:=⟨gw,k,none⟩) (.inl rfl) _⟩;by_cases e:j=k
     · subst e
       rw[Array.getElem?_setIfInBounds_self_of_lt (by rw[HX.out.2.2.1];exact hkl),HT.out.1]
     rw[Array.getElem?_setIfInBounds_ne (Ne.symm e)];exact HX.out.2.2.2.1 j (by omega)
   have hkn:k=n:=by omega
   have hk2:¬(k:Int)<(n:Int):=by omega
   have HIN:=Lib.hid (show ∀j,j<n→SS[j]?=some (.string (GF (af j))) from fun j hj=>HX.out.2.2.2.1 j (by omega));have hgi:=AH HX.out.1.2 (HC0.out i hlt);obtain⟨ai,ni,hfi,hci⟩:=(HX.out.1.1 i hlt).form;have hov:=KB (HX.out.1.1 i hlt);have HFI:=Lib.hid hfi;rw[hfi] at hgi hov;obtain⟨ci,hci'⟩:∃ci,ci=(af i).length:=⟨_,rfl⟩
   rw[←hci'] at hgi hov hci HFI;have HOV:=Lib.hid hov;clear hov hci' hfi;go_wp2_with fail;refine HOV.out.mono ?_;rintro e w3 ⟨⟨u3,rfl⟩,c3,all3,hl3,hA3⟩
   have hw13:Ch (fun k=>∃j,j<n∧(ls j).ownBlock=some k) w w3:=by
    refine(HL1.out.2.trans HX.out.2.1 (fun k e=>?_)).trans c3 (fun k hk=>.inl ⟨i,hlt,by rw[HFI.out];exact hk⟩);exact .inr (by rw[e];exact HNE.out.2)
   have hL3:LsN n ls (fun j=>if j=i then all3 else af j) gl cur w3:=by
    refine⟨fun j hj=>?_,c3.row HX.out.1.2 (fun e=>HD.out.2 i hlt (by rw[HFI.out];exact e))⟩;by_cases e:j=i
    · subst e
      simp only[if_true];rw[HFI.out];exact hA3
    simp only[if_neg e];exact(HX.out.1.1 j hj).Ae c3 (fun k hk hk2=>HD.out.1 j i k hj hlt e hk (by rw[HFI.out];exact hk2))
   have hr3:=c3.row HX.out.2.2.2.2 (fun e=>by have:=HNE.out.1.2 i gw hlt (by rw[HFI.out];exact e);omega);have H3:=(hIq hL3 (aIq hw13 hr3))
   clear c3 hA3 hl3 hw13 hL3 hr3 hgi;go_wp2;go_loopg [6] n (fun g s6 wx=>∃k:Nat,k≤n∧g=n-k∧s6=.int .i64 k∧AN w3 wx)
   case atStart=>exact⟨0,Nat.zero_le _,rfl,rfl,Ch.refl _ _⟩
   obtain⟨k,hk,rfl,rfl,hA⟩:=hrel;have HA:=Lib.hid hA;clear hA;by_cases hkl:k<n
   · have hk2:(k:Int)<(n:Int):=by omega
     have hwk:wrap64 ((k:Int)+1)=(k:Int)+1:=by unfold wrap64;omega
     by_cases hki:k=i
     · have hn1:((k:Int) != (i:Int))=false:=by simpa using (show(k:Int)=(i:Int) by omega)
       have hn2:¬ ¬(k:Int)=(i:Int):=by omega
       have hn3:decide ((k:Int)=(i:Int))=true:=decide_eq_true (by omega);have hn4:((k:Int) == (i:Int))=true:=by simpa using (show(k:Int)=(i:Int) by omega)
       go_wp2;refine AP (fun _=>True) 21 [(0,false),(1,false),(2,false),(3,false),(4,false),(5,false),(6,false),(7,false),(8,false),(9,false),(10,false),(11,false),(12,false),(13,false),(14,false),(15,false),(16,false),(17,false),(18,false),(19,false),(20,false)] (by kernel_rfl) (by kernel_rfl) ?_ ?_
       · trivial
       iterate 2
        refine plan_look rfl rfl (fun w0 hS=>(by clear hS;go_simp;try rfl)) ?_;simp only[Act.put,nAq,nBq,nCq]
       iterate 2
        refine plan_look (v:=.bool false) rfl rfl (fun w0 hS=>(by clear hS;go_simp;try rfl)) ?_;simp only[Act.put,nAq,nBq,nCq]
       iterate 16
        refine BN rfl (by rfl) ?_;simp only[Act.put,nAq,nBq,nCq]
       refine plan_look (v:=.bool false) rfl rfl (fun w0 hS=>(by clear hS;go_simp;try rfl)) ?_;simp only[Act.put,nAq,nBq,nCq];refine AZ ?_;simp only[List.drop_succ_cons,List.drop_zero];go_wp2;refine NoPanic.normal ?_;go_wp2;go_roundg (n-(k+1))
       case measure=>omega
       exact⟨k+1,by omega,rfl,by first|go_num|(congr 1;omega)|rfl,HA.out.drew⟩
     have hn1:((k:Int) != (i:Int))=true:=by simpa using (show ¬(k:Int)=(i:Int) by omega)
     have hn2:¬(k:Int)=(i:Int):=by omega
     have hn4:((k:Int) == (i:Int))=false:=by simpa using (show ¬(k:Int)=(i:Int) by omega)
     have hbk:∀wz,LsN n ls (fun j=>if j=i then all3 else af j) gl cur wz→Fx wz (ls k) (af k):=fun wz hz=>by
      have:=hz.1 k hkl;simp only[if_neg hki] at this;exact this
     obtain⟨ak,nk,hfk,hck⟩:=(hbk _ H3.out.1).form;have hcut:=fun w1=>(hbk _ H3.out.1).cut w1
     have hconv:=fun wz (hz:LsN n ls (fun j=>if j=i then all3 else af j) gl cur wz)=>(hbk wz hz).conv
     have hget:∀wz,LsN n ls (fun j=>if j=i then all3 else af j) gl cur wz→wz.cell? ⟨gl,k,none⟩=some (ls k):=fun wz hz=>AH hz.2 (HC0.out k hkl)
     obtain⟨V,hV⟩:∃V,V=Lx (ls k):=⟨_,rfl⟩
     rw[←hV] at hcut hconv;have hin:=HIN.out k hkl;obtain⟨T,hT⟩:∃T,T=GF (af k):=⟨_,rfl⟩
     rw[←hT] at hconv hin;rw[hfk] at hget hcut;obtain⟨cl,hcl⟩:∃cl,cl=(af k).length:=⟨_,rfl⟩
     rw[←hcl] at hget hcut hck;have HGT:=Lib.hid hget;have HCT:=Lib.hid hcut;have HCV:=Lib.hid hconv;have HINK:=Lib.hid hin;clear hcl hT hV hfk hget hcut hconv hin hbk;go_wp2;refine AP (fun wz=>LsN n ls (fun j=>if j=i then all3 else af j) gl cur wz∧wz.heap[gw]?=some (.cells SS 9 (0,0))) 21 [(0,false),(1,false),(2,false),(3,false),(4,false),(5,false),(6,false),(7,false),(8,false),(9,false),(10,false),(11,false),(12,false),(13,false),(14,false),(15,false),(16,false),(17,false),(18,false),(19,false),(20,false)] (by kernel_rfl) (by kernel_rfl) ?_ ?_
     · exact⟨(H3.out.1.adds HA.out).adds (Ch.refl _ _).drew,AM (HA.out.row H3.out.2.2 id)⟩
     iterate 2
      refine plan_look rfl rfl (fun w0 hS=>(by clear hS;go_simp;try rfl)) ?_;simp only[Act.put,nAq,nBq,nCq]
     iterate 2
      refine plan_look (v:=.bool true) rfl rfl (fun w0 hS=>(by clear hS;go_simp;try rfl)) ?_;simp only[Act.put,nAq,nBq,nCq]
     iterate 3
      refine plan_look rfl rfl (fun w0 hS=>(by clear hS;go_simp;try rfl)) ?_;simp only[Act.put,nAq,nBq,nCq]
     refine plan_look (v:=.slice ak nk cl) rfl rfl (fun w0 hS=>(by have c1:=HGT.out w0 hS.1;clear hS;go_simp;try rfl)) ?_;simp only[Act.put,nAq,nBq,nCq]
     iterate 3
      refine plan_look rfl rfl (fun w0 hS=>(by clear hS;go_simp;try rfl)) ?_;simp only[Act.put,nAq,nBq,nCq]
     refine plan_look (v:=.slice ak nk cl) rfl rfl (fun w0 hS=>(by have c1:=HGT.out w0 hS.1;clear hS;go_simp;try rfl)) ?_;simp only[Act.put,nAq,nBq,nCq];refine plan_look (v:=.int .i64 (cl:Int)) rfl rfl (fun w0 hS=>(by clear hS;go_simp;try rfl)) ?_;simp only[Act.put,nAq,nBq,nCq];refine plan_look (v:=V) rfl rfl (fun w0 hS=>(by have q:=HCT.out w0;clear hS;go_simp;try rfl)) ?_;simp only[Act.put,nAq,nBq,nCq];refine DW rfl rfl 29 9 (.tmp 60) (.string T) rfl V rfl (fun w0 hS=>HCV.out w0 hS.1) ?_;simp only[Act.put,nAq,nBq,nCq]
     iterate 3
      refine plan_look rfl rfl (fun w0 hS=>(by clear hS;go_simp;try rfl)) ?_;simp only[Act.put,nAq,nBq,nCq]
     refine plan_look (v:=.string T) rfl rfl (fun w0 hS=>(by have c1:=AH hS.2 HINK.out;clear hS;go_simp;try rfl)) ?_;simp only[Act.put,nAq,nBq,nCq];refine plan_look (v:=.bool false) rfl rfl (fun w0 hS=>(by clear hS;go_simp;try rfl)) ?_;simp only[Act.put,nAq,nBq,nCq];refine plan_look (v:=.bool false) rfl rfl (fun w0 hS=>(by clear hS;go_simp;try rfl)) ?_;simp only[Act.put,nAq,nBq,nCq];refine AZ ?_;simp only[List.drop_succ_cons,List.drop_zero];go_wp2;refine NoPanic.normal ?_;go_wp2;go_roundg (n-(k+1))
     case measure=>omega
     exact⟨k+1,by omega,rfl,by first|go_num|(congr 1;omega)|rfl,HA.out.drew⟩
   have hkn:k=n:=by omega
   have hk2:¬(k:Int)<(n:Int):=by omega
   have hL4:=H3.out.1.adds HA.out;have hg4:=AH hL4.2 (HC0.out i hlt);have hov:=KB (hL4.1 i hlt);rw[HFI.out] at hg4 hov;have H4:=(hIq hL4 (H3.out.2.1.trans HA.out (fun _=>fEq)))
   have HOV2:=Lib.hid hov;clear hov hL4;go_wp2_with fail;refine HOV2.out.mono ?_;rintro e w5 ⟨⟨u5,rfl⟩,c5,all5,hl5,hA5⟩
   have hL5:LsN n ls (fun j=>if j=i then all5 else (if j=i then all3 else af j)) gl cur w5:=by
    refine⟨fun j hj=>?_,c5.row H4.out.1.2 (fun e=>HD.out.2 i hlt (by rw[HFI.out];exact e))⟩;by_cases e:j=i
    · subst e
      simp only[if_true];rw[HFI.out];exact hA5
    simp only[if_neg e];have:=H4.out.1.1 j hj;simp only[if_neg e] at this;exact this.Ae c5 (fun k hk hk2=>HD.out.1 j i k hj hlt e hk (by rw[HFI.out];exact hk2))
   have H5:=(hIq hL5 (H4.out.2.trans c5 (fun k hk=>.inl ⟨i,hlt,by rw[HFI.out];exact hk⟩)))
   clear hL5 c5 hA5 hl5 hg4;go_wp2;go_roundg (n-(i+1))
   case measure=>omega
   exact⟨i+1,_,by omega,rfl,by first|go_num|(congr 1;omega)|rfl,H5.out.1,H5.out.2⟩
 have hin:i=n:=by omega
 have hi2:¬(i:Int)<(n:Int):=by omega
 go_wp2;go_ret;exact⟨rfl,HL.out.2,af,HL.out.1⟩
end
end Go.Proofs.YtngbdbpofifimaaGreat.Store
namespace Go.Proofs.YtngbdbpofifimaaGreat.Store
open Go.RowKit Go.Sort Go.Proofs.YtngbdbpofifimaaGreat.ShaW Go.Proofs.YtngbdbpofifimaaGreat.Path Go.Proofs.YtngbdbpofifimaaGreat.Bk
def Sep (xs:List Value):Prop:=xs.Pairwise fun x y=>∀k,x.ownBlock=some k→y.ownBlock≠some k
theorem Sep.get {xs:List Value} (h:Sep xs) {i j k:Nat} (hi:i<xs.length) (hj:j<xs.length) (hij:i≠j) (e:(xs.getD i undef).ownBlock=some k):(xs.getD j undef).ownBlock≠some k:=by
 have h':=List.pairwise_iff_getElem.1 h;rw[List.getD_eq_getElem?_getD,List.getElem?_eq_getElem hi,Option.getD_some] at e;rw[List.getD_eq_getElem?_getD,List.getElem?_eq_getElem hj,Option.getD_some];rcases Nat.lt_or_gt_of_ne hij with hlt|hgt
 · exact h' i j hi hj hlt k e
 exact fun e2=>h' j i hj hi hgt k e2 e
section
variable {w w' : World}
theorem PI (ao:Option Addr) (cap:Nat):Calls Tryz.prog 29 #[.slice ao 0 cap] w fun e w'=>e=.returned (.bool true)∧w'=w:=by
 go_enter Tryz.func29,Tryz.ntmps29;go_wp2;go_loopg [3,4,5,6] 0 (fun g s3 s4 s5 s6 wr=>s3=.int .i64 0∧wr=w)
 case atStart=>exact⟨rfl,rfl⟩
 obtain⟨rfl,rfl⟩:=hrel;go_wp2;go_ret;exact⟨rfl,rfl⟩
theorem Qm {v:Value} {xs:List Value} (hv:w.ownsRow 0 29 1 v xs.length xs) (hb:∀x∈xs,∃all,Fx w x all) (hs:Sep xs) (hg:∀x∈xs,∀k,x.ownBlock=some k→v.ownBlock≠some k) (hn:xs.length≤1000) {C:Nat→Prop} (hq:∀x∈xs,∀k,x.ownBlock=some k→C k) :
 Calls Tryz.prog 29 #[v] w fun e w'=>e=.returned (.bool true)∧Ch C w w':=by
 by_cases h0:xs.length=0
 · obtain⟨ao,cap,rfl⟩:=Am hv
   rw[h0];exact(PI ao cap).mono fun e w' ⟨h1,h2⟩=>⟨h1,by rw[h2];exact Ch.refl _ _⟩
 rcases hv.2 with⟨_,e⟩|⟨g,cap,cur,rfl,_,hr,h3,_,h5,h6⟩
 · exact absurd e h0
 have hget:∀j,j<xs.length→cur[j]?=some (xs.getD j undef):=fun j hj=>by
  have e1:xs[j]?=cur.toList[j]?:=by rw[←h6,List.getElem?_take_of_lt (by omega)]
  rw[List.getElem?_eq_getElem hj] at e1;rw[List.getD_eq_getElem?_getD,List.getElem?_eq_getElem hj,Option.getD_some, ←Array.getElem?_toList, ←e1]
 have hmem:∀j,j<xs.length→xs.getD j undef∈xs:=fun j hj=>by
  rw[List.getD_eq_getElem?_getD,List.getElem?_eq_getElem hj,Option.getD_some];exact List.getElem_mem hj
 have hbf:∀j,∃all,j<xs.length→Fx w (xs.getD j undef) all:=fun j=>by
  by_cases hj:j<xs.length
  · obtain⟨all,h⟩:=hb _ (hmem j hj)
    exact⟨all,fun _=>h⟩
  exact⟨[],fun h=>absurd h hj⟩
 obtain⟨bf,hbf⟩:=Classical.axiomOfChoice hbf;have:=QI (w:=w) (n:=xs.length) (cp:=cap) (ls:=fun j=>xs.getD j undef) (bf:=bf) (gl:=g) (cur:=cur) (by omega) hn hget ⟨hbf,hr⟩ (fun i j k hi hj hij e=>hs.get hi hj hij e) (fun j hj e=>hg _ (hmem j hj) g e rfl);refine this.mono fun e w' ⟨h1,h2,_⟩=>⟨h1,h2.mono fun k _ ⟨j,hj,hk⟩=>hq _ (hmem j hj) k hk⟩
theorem Tj {b1 b2:Nat} {v1 v2:Value} {l1 l2:List Pr} (h1:Told b1 w v1 l1) (h2:Told b2 w v2 l2) (hlt:∀x∈l1,∀k,x.vv.ownBlock=some k→k<b2):Sep (vals (fun j=>if j=0 then l1 else l2) 2):=by
 have e:vals (fun j=>if j=0 then l1 else l2) 2=l1.map (·.vv)++l2.map (·.vv):=by simp[vals,List.range_succ]
 rw[e];unfold Sep;rw[List.pairwise_append,List.pairwise_map,List.pairwise_map];refine⟨h1.apart,h2.apart,fun a ha b hb k e1 e2=>?_⟩;obtain⟨x,hx,rfl⟩:=List.mem_map.1 ha;obtain⟨y,hy,rfl⟩:=List.mem_map.1 hb;have:=hlt x hx k e1;have:=((h2.vals y hy).2.2 k e2).1;omega
theorem Is {b1 b2:Nat} {v1 v2:Value} {l1 l2:List Pr} (h1:Told b1 w v1 l1) (h2:Told b2 w v2 l2) (hb:b1≤b2):∀x∈vals (fun j=>if j=0 then l1 else l2) 2,(∃all,Fx w x all)∧∀k,x.ownBlock=some k→b1≤k∧k<w.heap.size:=by
 have e:vals (fun j=>if j=0 then l1 else l2) 2=l1.map (·.vv)++l2.map (·.vv):=by simp[vals,List.range_succ]
 rw[e];intro x hx;rcases List.mem_append.1 hx with h|h
 · obtain⟨y,hy,rfl⟩:=List.mem_map.1 h
   exact⟨(h1.whole y hy).whole,fun k hk=>⟨((h1.vals y hy).2.2 k hk).1,((h1.vals y hy).2.2 k hk).2.1⟩⟩
 obtain⟨y,hy,rfl⟩:=List.mem_map.1 h;exact⟨(h2.whole y hy).whole,fun k hk=>⟨Nat.le_trans hb ((h2.vals y hy).2.2 k hk).1,((h2.vals y hy).2.2 k hk).2.1⟩⟩
theorem SJ (l1 l2:List Pr):(vals (fun j=>if j=0 then l1 else l2) 2).length=l1.length+l2.length:=by
 simp[vals,List.range_succ]
def EL (er most:Int):Int:=if er≠0 then er else if most<0∨256<most then 2 else 0
def Cp (er most:Int) (E:Av):Av:=if er≠0 then [] else if most<0∨256<most then [] else E.take most.toNat
theorem MI (er most:Int) (E:Av):(Cp er most E).length≤256:=by
 unfold Cp;split
 · exact Nat.zero_le _
 split
 · exact Nat.zero_le _
 rw[List.length_take];omega
theorem TD.one {er most:Int} {E:Av} {e:Ending} (h:TD w er most E e w'):AN w w'∧∃ao out cap,e=.returned (.tuple #[.slice ao (List.length out) cap,.int .i64 (EL er most)])∧Told w.heap.size w' (.slice ao (List.length out) cap) out∧out.map Pr.ent=Cp er most E:=by
 obtain⟨a,⟨h0,rfl⟩|⟨h0,hm,rfl⟩|⟨h0,h1,h2,ao,out,cap,rfl,ht,he⟩⟩:=h
 · exact⟨a,none,[],0,by unfold EL;rw[if_pos h0];rfl,Told.none _ _,by unfold Cp;rw[if_pos h0];rfl⟩
 · exact⟨a,none,[],0,by unfold EL;rw[if_neg (by omega),if_pos hm];rfl,Told.none _ _,by unfold Cp;rw[if_neg (by omega),if_pos hm];rfl⟩
 exact⟨a,ao,out,cap,by unfold EL;rw[if_neg (by omega),if_neg (by omega)],ht,by unfold Cp;rw[if_neg (by omega),if_neg (by omega)];exact he⟩
theorem TB.one {er most:Int} {E:Av} {e:Ending} (h:TB w er most E e w'):AN w w'∧∃ao out cap,e=.returned (.tuple #[.slice ao (List.length out) cap,.int .i64 (EL er most)])∧Ba w' ao out∧out.map Pr.ent=Cp er most E:=by
 obtain⟨a,⟨h0,rfl⟩|⟨h0,hm,rfl⟩|⟨h0,h1,h2,ao,out,cap,rfl,ht,he⟩⟩:=h
 · exact⟨a,none,[],0,by unfold EL;rw[if_pos h0];rfl,⟨fun x hx=>(by cases hx),fun i x hi=>(by simp at hi)⟩,by unfold Cp;rw[if_pos h0];rfl⟩
 · exact⟨a,none,[],0,by unfold EL;rw[if_neg (by omega),if_pos hm];rfl,⟨fun x hx=>(by cases hx),fun i x hi=>(by simp at hi)⟩,by unfold Cp;rw[if_neg (by omega),if_pos hm];rfl⟩
 exact⟨a,ao,out,cap,by unfold EL;rw[if_neg (by omega),if_neg (by omega)],ht,by unfold Cp;rw[if_neg (by omega),if_neg (by omega)];exact he⟩
theorem TC {σ:AG Nd} (G:Good σ) (r:Int):∃T:Tr,(AX σ r=0→Rep (sk σ) r 0 T)∧T.leaves≤65536∧∀e∈BE σ r T,e.2.length≤1024:=by
 by_cases h0:AX σ r=0
 · obtain⟨T,l,e,hr,_⟩:=Mc G (List.replicate 32 0) h0
   refine⟨T,fun _=>hr,?_,fun x hx=>?_⟩
   · have h1:=JV G hr
     rw[Tr.BS] at h1;have h2:=G.sound.wf.len;have h3:=G.sound.wf.room;omega
   rw[Ee h0] at hx;exact((hr.Ah G.fit).1 x hx).2
 exact⟨.nil,fun h=>absurd h h0,Nat.zero_le _,fun x hx=>by rw[E5 h0] at hx;cases hx⟩
end
end Go.Proofs.YtngbdbpofifimaaGreat.Store
