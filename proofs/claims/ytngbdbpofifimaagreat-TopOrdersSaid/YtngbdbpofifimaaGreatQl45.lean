/- Laws of the layers below. -/
import Derived.Test.YtngbdbpofifimaaGreatQl44
set_option maxHeartbeats 3200000
set_option maxRecDepth 100000
set_option linter.unusedVariables false
namespace Go.Proofs.YtngbdbpofifimaaGreat.Law15
open Go.RowKit Go.Sort Go.Proofs.YtngbdbpofifimaaGreat.ShaW Go.Proofs.YtngbdbpofifimaaGreat.Path Go.Proofs.YtngbdbpofifimaaGreat.Store Go.Proofs.YtngbdbpofifimaaGreat.Law9 Go.Proofs.YtngbdbpofifimaaGreat.Law14
theorem UE (a b:Option Addr) (n c m d:Nat):Tryz.prog.built 131 [(0,.slice a n c),(2,.slice b m d)]=some #[.slice a n c,.bool false,.slice b m d]:=by kernel_rfl
structure Ru (w wr:World) (v:Value) (rl:List Ay) (l:List Pr) (k:Nat):Prop where
 row:YW wr w.heap.size v rl
 len:rl.length=k
 keys:∀x∈rl,∃g cap,x.kv=.slice (some ⟨g,0,none⟩) 32 cap∧Bytes wr x.kv x.kb∧w.heap.size≤g∧g<wr.heap.size∧v.ownBlock≠some g
 vals:∀x∈rl,Bytes w x.vv x.vb∧(x.vb ≠ []→∀k,x.vv.ownBlock=some k→k<w.heap.size)
 eq:rl.map (fun x=>(x.kb,x.gone,x.vb))=(l.take k).map (fun p=>(p.key,false,p.val))
 world:Adds w wr
theorem Ru.good {w wr:World} {v:Value} {rl:List Ay} {l:List Pr} {k:Nat} (h:Ru w wr v rl l k):∀x∈rl,x.Good wr:=fun x hx=>by
 obtain⟨g,cap,e,hb,h1,h2,_⟩:=h.keys x hx;obtain⟨hv,hvb⟩:=h.vals x hx;refine⟨hb,fun _ k hk=>?_,hv.Af h.world (fun _ _ h=>h),fun h0 k hk=>Nat.lt_of_lt_of_le (hvb h0 k hk) h.world.size⟩;rw[e] at hk;cases hk;exact h2
def WJ (w:World) (l:List Pr) (e:Ending) (w':World):Prop:=∃ao rl cap,e=.returned (.slice ao (List.length rl) cap)∧Ge w' ao rl∧rl.length=l.length∧rl.map (fun x=>(x.kb,x.gone,x.vb))=l.map (fun p=>(p.key,false,p.val))∧(∀x∈rl,x.vb ≠ []→∀k,x.vv.ownBlock=some k→∃y∈l,y.vv.ownBlock=some k∧y.val ≠ [])∧Adds w w'
theorem XT {w:World} {ao:Option Addr} {l:List Pr} (cap:Nat) (h:BA w ao l) (hn:l.length≤1000):Calls Tryz.prog 94 #[.slice ao l.length cap] w (WJ w l):=by
 obtain⟨len,hlen⟩:∃len,len=l.length:=⟨_,rfl⟩
 obtain⟨i0,z0,p1,p2,p3,p4,p5⟩:=Vo;have HI:=(hIq p1 (aIq p2 (aIq p3 (aIq p4 p5))))
 rw[←hlen] at hn ⊢;have HH:=(hIq h hlen)
 clear h hlen p1 p2 p3 p4 p5;go_enter Tryz.func94,Tryz.ntmps94;go_wp2_with fail;go_loopg [3,4] len (fun g s3 s4 wr=>∃(k:Nat) (rl:List Ay) (qo:Option Addr) (qc:Nat),s3=.slice qo k qc∧s4=.int .i64 (k:Nat)∧k+g=len∧Ru w wr (.slice qo k qc) rl l k∧∀x∈rl,x.vb ≠ []→∀k,x.vv.ownBlock=some k→∃y∈l,y.vv.ownBlock=some k∧y.val ≠ [])
 case atStart=>exact⟨0,[],none,0,rfl,rfl,by omega,⟨World.ownsRow_nil _ _ _ _,rfl,fun x hx=>(by cases hx),fun x hx=>(by cases hx),rfl,Ch.refl _ _⟩,fun x hx=>(by cases hx)⟩
 obtain⟨k,rl,qo,qc,rfl,rfl,hk,hst,hsrc⟩:=hrel;have HST:=(hIq hst (aIq hk hsrc))
 by_cases hkn:k<len
 · have h1:decide ((k:Int)<(len:Int))=true:=decide_eq_true (by omega)
   have h2:(k:Int)<(len:Int):=by omega
   have hwk:wrap64 ((k:Int)+1)=(k:Int)+1:=by unfold wrap64;omega
   obtain⟨x,hx⟩:∃x,l[k]?=some x:=⟨_,List.getElem?_eq_getElem (by have:=HH.out.2;omega)⟩
   obtain⟨g0,off,rfl,cur,ty,fr,c1,c2,c3⟩:=HH.out.1.2 k x hx;have hg:=HH.out.1.1 x (List.mem_of_getElem? hx);rw[Pr.size hg.key] at c2 c3;obtain⟨pk,pv⟩:=FH hg.key c3;obtain⟨vo,vc,hxv,_,_⟩:=hg.val.form;obtain⟨vn,hvn⟩:∃vn,vn=x.val.length:=⟨_,rfl⟩
   rw[hxv, ←hvn] at pv;obtain⟨K,hK⟩:∃K,K=AK x.key:=⟨_,rfl⟩
   rw[←hK] at pk;have c1r:=hst.world.row c1 id;have hg0:=Ac c1;have HG0:=Lib.hid hg0;clear hg0;have hpb:=fun w9=>Nr w9 hg.key
   rw[←hK] at hpb;have htk:l.take (k+1)=l.take k ++ [x]:=by rw[List.take_add_one,hx];rfl
   have HC:=(hIq c1r (aIq c2 (aIq pk pv)))
   have HX:=(hIq hpb (aIq hg (aIq htk (aIq (List.mem_of_getElem? hx) (aIq hxv hvn)))))
   clear hst hk hsrc hx c1 c2 c3 hg pk pv hxv hvn hK c1r hpb htk;go_wp2_with fail;refine AO (fun w0=>w0.heap[g0]?=some (.cells cur ty fr)) 15 [(0,false),(1,false),(2,false),(3,false),(4,false),(5,false),(7,false),(8,false),(9,false),(10,false),(11,false),(6,true),(12,false),(13,true),(14,true)] (by kernel_rfl) (by kernel_rfl) ?_ ?_
   · exact AP HC.out.1
   iterate 5
    refine plan_look rfl rfl (fun w0 hS=>(by clear hS;go_simp;try rfl)) ?_;simp only[Act.put,nAq,nBq,nCq]
   refine Ah (cur:=cur) (t:=ty) (fr:=fr) rfl rfl 47 _ rfl g0 (off+k*33) 32 (by simp[go_sem]) (fun w0 hS=>hS) Tryz.underlying47 rfl AY (by have:=HC.out.2.1;omega) K HC.out.2.2.1 ?_;simp only[Act.put,nAq,nBq,nCq]
   iterate 4
    refine plan_look rfl rfl (fun w0 hS=>(by clear hS;go_simp;try rfl)) ?_;simp only[Act.put,nAq,nBq,nCq]
   refine plan_look (v:=.slice vo vn vc) rfl rfl (fun w0 hS=>(by have e0:=AH hS HC.out.2.2.2;clear hS;go_simp;try rfl)) ?_;simp only[Act.put,nAq,nBq,nCq];refine AV rfl ?_;go_wp2_with fail;refine(HX.out.1 _).mono ?_;rintro e w6 ⟨gk2,kc,rfl,hkb,hkl,hkh,a6⟩;have a6':Adds wr w6:=(Ch.refl _ _).drew.trans a6 (fun _=>fEq);have H6:=(hIq a6' (aIq hkb (aIq (show wr.heap.size≤gk2 from hkl) hkh)))
   clear a6 a6' hkb hkl hkh;dsimp only;go_step;refine wpList_nil ?_;change _∧_;refine⟨H6.out.1.row HC.out.1 id,?_⟩;refine DN rfl rfl 131 0 2 _ _ rfl (.slice (some ⟨gk2,0,none⟩) 32 kc) (.slice vo vn vc) rfl rfl #[.slice (some ⟨gk2,0,none⟩) 32 kc,.bool false,.slice vo vn vc] (UE _ _ _ _ _ _) ?_;simp only[Act.put,nAq,nBq,nCq];refine AV rfl ?_
   go_wp2_with (first
    | fail
    | ((with_reducible show zOq (.buildSlice 30 _ _));refine As rfl 30 _ rfl 131 i0 z0 (.agg #[.slice (some ⟨gk2,0,none⟩) 32 kc,.bool false,.slice vo vn vc]) rfl Tryz.underlying30 HI.out.1 HI.out.2.1 (by rw[HI.out.2.2.1];decide) (by rw[HI.out.2.2.1];decide) (by rw[HI.out.2.2.1];rfl) ?_))
   refine⟨AM (H6.out.1.row HC.out.1 id) _,?_⟩;refine AV rfl ?_;have hnews:=Cc (heap_alloc_new w6 (.cells #[Value.slice (some ⟨gk2,0,none⟩) 32 kc,.bool false,.slice vo vn vc] 131))
   have hown:(w6.alloc (.cells #[Value.slice (some ⟨gk2,0,none⟩) 32 kc,.bool false,.slice vo vn vc] 131)).ownsRow 0 131 3 (.slice qo k qc) k (BC Ay.cells rl):=by
    have:=((H6.out.1.alloc (.cells #[Value.slice (some ⟨gk2,0,none⟩) 32 kc,.bool false,.slice vo vn vc] 131)).owns HST.out.1.row (fun _ _ h=>h)).base (b':=0) (fun _ _=>Nat.zero_le _);rw[HST.out.1.len] at this;exact this
   have HO:=(hIq hnews hown)
   clear hnews hown
   go_wp2_with (first
    | fail
    | (at_builtin;refine Ak rfl _ _ 30 rfl 131 i0 z0 3 56 Tryz.underlying30 HI.out.1 HI.out.2.1 HI.out.2.2.1 HI.out.2.2.2.1 HI.out.2.2.2.2 (by decide) (.slice qo k qc) k (BC Ay.cells rl) rfl HO.out.2 ⟨w6.heap.size,0,none⟩ 1 1 [.slice (some ⟨gk2,0,none⟩) 32 kc,.bool false,.slice vo vn vc] rfl rfl HO.out.1 (by simp[Value.oneCell']) (by unfold maxLen;omega) (by omega) ?_;intro v' w7 own' grow' loc'))
   have a7:Adds w w7:=((HST.out.1.world.trans H6.out.1 (fun _=>fEq)).alloc _).grown grow' (fun j hj=>.inr (HST.out.1.row.lt j hj).1);have hsz6:=H6.out.1.size
   have hns:∀j,v'.ownBlock=some j→(Value.slice qo k qc).ownBlock=some j∨w6.heap.size<j:=fun j hj=>by
    rcases loc' with e|e
    · exact .inl (by rw[←e];exact hj)
    have:=e j hj;simp at this;exact .inr (by omega)
   have c7:Ch (fun j=>(Value.slice qo k qc).ownBlock=some j) w6 w7:=((Ch.refl _ w6).alloc _).grown grow' (fun j hj=>.inl hj);have hsz7:=c7.size
   have HN:RowKit.Hid (Ru w w7 v' (rl ++ [⟨.slice (some ⟨gk2,0,none⟩) 32 kc,x.key,false,.slice vo vn vc,x.val⟩]) l (k+1)):=Lib.hid (by
    refine⟨?_,by rw[List.length_append,HST.out.1.len];rfl,fun y hy=>?_,fun y hy=>?_,?_,a7⟩
    · unfold YW Ck
      have hfl:BC Ay.cells (rl ++ [⟨.slice (some ⟨gk2,0,none⟩) 32 kc,x.key,false,.slice vo vn vc,x.val⟩])=BC Ay.cells rl ++ [.slice (some ⟨gk2,0,none⟩) 32 kc,.bool false,.slice vo vn vc]:=by rw[CZ];simp[BC,Ay.cells]
      rw[hfl,List.length_append,HST.out.1.len];refine own'.base (fun j hj=>?_);rcases hns j hj with e|e
      · exact(HST.out.1.row.lt j e).1
      have:=HST.out.1.world.size;omega
    · rcases List.mem_append.1 hy with hy|hy
      · obtain⟨g,cp,e,hb,h3,h4,h5⟩:=HST.out.1.keys y hy
        refine⟨g,cp,e,(hb.Af H6.out.1 (fun _ _ h=>h)).Af c7 (fun j hj hf=>?_),h3,by omega,fun hh=>?_⟩
        · rw[e] at hj
          cases hj;exact h5 hf
        rcases hns g hh with q|q
        · exact h5 q
        omega
      rw[List.mem_singleton.1 hy];refine⟨gk2,kc,rfl,H6.out.2.1.Af c7 (fun j hj hf=>?_),by have:=HST.out.1.world.size;have:=H6.out.2.2.1;omega,by have:=H6.out.2.2.2;omega,fun hh=>?_⟩
      · cases hj
        have h6:wr.heap.size≤gk2:=H6.out.2.2.1;have h7:gk2<wr.heap.size:=(HST.out.1.row.lt _ hf).2;omega
      rcases hns gk2 hh with q|q
      · have:=(HST.out.1.row.lt _ q).2
        have:=H6.out.2.2.1;omega
      have:=H6.out.2.2.2;omega
    · rcases List.mem_append.1 hy with hy|hy
      · exact HST.out.1.vals y hy
      rw[List.mem_singleton.1 hy];have h3:=HX.out.2.1.val;have h4:=HX.out.2.1.blk;rw[HX.out.2.2.2.2.1, ←HX.out.2.2.2.2.2] at h3 h4;exact⟨h3,h4⟩
    rw[List.map_append,HST.out.1.eq,HX.out.2.2.1,List.map_append];rfl)
   have HN2:RowKit.Hid (∀y∈rl ++ [⟨.slice (some ⟨gk2,0,none⟩) 32 kc,x.key,false,.slice vo vn vc,x.val⟩],y.vb ≠ []→∀k,y.vv.ownBlock=some k→∃z∈l,z.vv.ownBlock=some k∧z.val ≠ []):=Lib.hid (fun y hy h0 j hj=>by
    rcases List.mem_append.1 hy with hy|hy
    · exact HST.out.2.2 y hy h0 j hj
    rw[List.mem_singleton.1 hy] at h0 hj;exact⟨x,HX.out.2.2.2.1,by rw[HX.out.2.2.2.2.1, ←HX.out.2.2.2.2.2];exact hj,h0⟩)
   have hS7:=c7.row (H6.out.1.row HC.out.1 id) (fun hf=>by have h1:=(HST.out.1.row.lt _ hf).1;have h2:=HG0.out;omega);obtain⟨no,nc,rfl⟩:=Aj own';clear own' grow' loc' a7 hsz6 hns c7 hsz7;refine⟨?_,?_⟩
   · exact hS7
   refine AZ ?_;simp only[List.drop_succ_cons,List.drop_zero];go_wp2;refine NoPanic.normal ?_;go_wp2_with fail;go_roundg (len-(k+1))
   case measure=>have:=HST.out.2.1;omega
   exact⟨k+1,_,no,nc,rfl,by first|(simp;done)|(simp[hwk];done),by omega,HN.out,HN2.out⟩
 obtain rfl:k=len:=by omega
 have h1:decide ((k:Int)<(k:Int))=false:=decide_eq_false (by omega);have h2:¬(k:Int)<(k:Int):=by omega
 clear hst hk hsrc;go_wp2;go_ret;obtain⟨ao2,cap2,e2,hr⟩:=HST.out.1.row.at HST.out.1.good;have hlen:=HST.out.1.len;have heq:=HST.out.1.eq;rw[List.take_of_length_le (by have:=HH.out.2;omega)] at heq;exact⟨ao2,rl,cap2,by rw[←e2];rfl,hr,by rw[hlen,HH.out.2],heq,HST.out.2.2,HST.out.1.world⟩
theorem Ul {σ σ':AD Nd} {root:Int} {L2 L':AS} {R:List (Int×AS)} {l:List Pr} {i sz j:Nat} {rl:List Ay} {er:Int} (hf:Df l) (h32:∀x∈l,x.key.length=32) (hi:i<l.length) (hj:j=min l.length (i+sz)) (hsz:sz≤20) (D:BE σ ((root,L2)::R)) (hp:L2.Perm ((l.take i).map Pr.ent)) (hlv:Store.live σ≤258*i)
 (hn:l.length≤60) (hrm:σ.room=60000) (heq:rl.map (fun x=>(x.kb,x.gone,x.vb))=((l.drop i).take (j-i)).map (fun p=>(p.key,false,p.val))) (hb:VD σ rl L2 L' er) (hl:Yz σ σ' rl er):er=0∧L'.Perm ((l.take (i+sz)).map Pr.ent)∧Store.live σ'≤258*(i+sz):=by
 obtain⟨P,hP⟩:∃P,P=(l.drop i).take (j-i):=⟨_,rfl⟩
 rw[←hP] at heq;have hPl:P.length=j-i:=by rw[hP,List.length_take,List.length_drop];omega
 have hrl:rl.length=j-i:=by have:=congrArg List.length heq;rw[List.length_map,List.length_map] at this;omega
 have hPm:∀p∈P,p∈l:=fun p hp=>List.mem_of_mem_drop (List.mem_of_mem_take (by rw[←hP];exact hp))
 have hmem:∀x∈rl,∃p∈P,x.kb=p.key∧x.gone=false∧x.vb=p.val:=fun x hx=>by
  have h1:(x.kb,x.gone,x.vb)∈P.map (fun p=>(p.key,false,p.val)):=by rw[←heq];exact List.mem_map_of_mem (f:=fun x:Ay=>(x.kb,x.gone,x.vb)) hx
  obtain⟨p,hp,e⟩:=List.mem_map.1 h1;simp only[Prod.mk.injEq] at e;exact⟨p,hp,e.1.symm,e.2.1.symm,e.2.2.symm⟩
 have hk:rl.map (·.kb)=P.map (·.key):=by
  have:=congrArg (List.map Prod.fst) heq;rw[List.map_map,List.map_map] at this;exact this
 have hkv:(rl.map fun x=>(x.kb,x.vb))=P.map Pr.ent:=by
  have:=congrArg (List.map fun q:List UInt8×Bool×List UInt8=>(q.1,q.2.2)) heq;rw[List.map_map,List.map_map] at this;exact this
 have htk:l.take j=l.take i++P:=by
  rw[hP, ←List.take_add,show i+(j-i)=j by omega]
 have hnd:((l.take i++P).map (·.key)).Nodup:=by
  rw[←htk];exact hf.2.2.sublist ((List.take_sublist _ _).map _)
 rw[List.map_append,List.nodup_append] at hnd
 obtain⟨h1,h2⟩:=TB D hb (fun x hx=>by obtain⟨p,hp,e,_⟩:=hmem x hx;rw[e];exact h32 p (hPm p hp)) (fun x hx=>by obtain⟨p,hp,_,e,_⟩:=hmem x hx;exact e) (by rw[hk];exact hnd.2.1) (fun x hx hm=>by
  obtain⟨p,hpp,e,_⟩:=hmem x hx;have h3:x.kb∈keysOf ((l.take i).map Pr.ent):=(hp.map _).mem_iff.1 hm;rw[Ke] at h3;exact hnd.2.2 _ h3 p.key (List.mem_map_of_mem hpp) e) (fun x hx=>by obtain⟨p,hpp,_,_,e⟩:=hmem x hx;rw[e];exact hf.2.1 p (hPm p hpp)) (by omega) (by rw[hrm,hrl];omega)
 refine⟨h1,?_,?_⟩
 · have e:l.take (i+sz)=l.take j:=by
    by_cases hc:i+sz≤l.length
    · rw[show j=i+sz by omega]
    rw[List.take_of_length_le (by omega),show j=l.length by omega,List.take_length]
   rw[e,htk,List.map_append, ←hkv];exact h2.trans (hp.append_right _)
 rcases hl with⟨h3,_⟩|⟨_,l',h3,h4⟩
 · exact absurd h1 h3
 have h5:=h3.len;rw[List.length_map] at h5;omega
structure Z3 (w0 wr:World) (d v s:Nat) (σ:AD Nd) (root:Int) (L2:AS) (l:List Pr) (i:Nat):Prop where
 dct:Dct w0 wr d v s (fun _=>False) 60000 σ root L2 [] (60000*i)
 perm:L2.Perm ((l.take i).map Pr.ent)
 live:Store.live σ≤258*i
def Zq (w:World) (l:List Pr) (e:Ending) (w':World):Prop:=∃d v s σ root L2,e=.returned (.tuple #[.pointer (some ⟨d,0,none⟩),.bool true])∧Dct w w' d v s (fun _=>False) 60000 σ root L2 [] 5000000∧L2.Perm (l.map Pr.ent)
theorem RC {w:World} {ao:Option Addr} {l:List Pr} (cap:Nat) (h:BA w ao l) (hcap:l.length≤cap) (hf:Df l) (hn:l.length≤60) (sz:Nat) (hs1:1≤sz) (hs2:sz≤20):Calls Tryz.prog 36 #[.slice ao l.length cap,.int .i64 (sz:Int)] w (Zq w l):=by
 obtain⟨n,hln⟩:∃n,n=l.length:=⟨_,rfl⟩
 have HNW:=Lib.hid (N3 60000 w (by decide) (by decide));rw[←hln] at hcap hn ⊢;have HH:=(hIq h (aIq hf hln))
 clear h hf hln;go_enter Tryz.func36,Tryz.ntmps36;go_wp2_with fail;refine HNW.out.mono ?_;rintro e w1 ⟨d,v,s,rfl,hd⟩;have HD:=Lib.hid hd;clear hd HNW;go_upto_region 4 with fail;go_wp2_with fail;go_loopg [8] (n+21) (fun g s8 wr=>∃(i:Nat) (σ:AD Nd) (root:Int) (L2:AS),s8=.int .i64 (i:Nat)∧i+g=n+21∧i≤n+20∧Z3 w wr d v s σ root L2 l i)
 case atStart=>exact⟨0,_,_,_,rfl,by omega,by omega,⟨HD.out,List.Perm.refl _,Nat.le_refl _⟩⟩
 obtain⟨i,σ,root,L2,rfl,hi,hi20,hst⟩:=hrel;have HST:=(hIq hst hi)
 by_cases hin:i<n
 · have h1:decide ((i:Int)<(n:Int))=true:=decide_eq_true (by omega)
   have h2:(i:Int)<(n:Int):=by omega
   obtain⟨j,hj⟩:∃j,j=min n (i+sz):=⟨_,rfl⟩
   have hwi:wrap64 ((i:Int)+(sz:Int))=(i:Int)+(sz:Int):=by unfold wrap64;omega
   have hmin:min (n:Int) ((i:Int)+(sz:Int))=(j:Int):=by omega
   have hsl:∀w0:World,(Instr.sliceAt 56 (.slice ao n cap) (some (.int .i64 (i:Int))) (some (.int .i64 (j:Int))) none).run Tryz.prog w0=.ok (.slice (Store.MT ao cap i) (j-i) (cap-i)) w0:=fun w0=>Te ao n cap i j (by omega) (by omega) w0
   have hpt:=Q8 HH.out.1 (by rw[←HH.out.2.2];exact hcap) (cap:=cap) i (j-i);have hpl:((l.drop i).take (j-i)).length=j-i:=by rw[List.length_take,List.length_drop, ←HH.out.2.2];omega
   have hrw:=XT (cap-i) (hpt.Af hst.dct.world (fun _=>fEq)) (by rw[hpl];omega);rw[hpl] at hrw;have HR:=(hIq hrw (aIq hj hpl))
   clear hst hi hpt hpl hrw hj;go_wp2_with fail;refine HR.out.1.mono ?_;rintro e w5 ⟨ao5,rl,cap5,rfl,hra,hrl,heq,hsrc,a5⟩
   have hbt:=DBatch_in (HST.out.1.dct.adds a5) cap5 hra (fun x hx h0 b hb=>by
    obtain⟨y,hy,e,hy0⟩:=hsrc x hx h0 b hb;exact(HH.out.1.1 y (List.mem_of_mem_drop (List.mem_of_mem_take hy))).blk hy0 b e) (by rw[hrl,HR.out.2.2];omega) (by omega)
   obtain⟨rn,hrn⟩:∃rn,rn=rl.length:=⟨_,rfl⟩
   rw[←hrn] at hbt ⊢;have HB:=(hIq hbt heq)
   clear hbt heq hra hrl hsrc a5 hrn;go_wp2_with fail;refine HB.out.1.mono ?_;rintro e w6 ⟨er,σ',r,L',rfl,hs,hb,hlv⟩;obtain⟨rfl,hp',hl'⟩:=Ul HH.out.2.1 (fun x hx=>(HH.out.1.1 x hx).key) (by rw[←HH.out.2.2];exact hin) (by rw[←HH.out.2.2];exact HR.out.2.1) hs2 HST.out.1.dct.rts HST.out.1.perm HST.out.1.live (by rw[←HH.out.2.2];exact hn) HST.out.1.dct.room HB.out.2 hb hlv;have HN:RowKit.Hid (Z3 w w6 d v s σ' r L' l (i+sz)):=Lib.hid ⟨hs.dct.Ik (by omega),hp',hl'⟩;clear hs hb hlv hp' hl';go_wp2;go_roundg (n+21-(i+sz))
   case measure=>have:=HST.out.2;omega
   exact⟨i+sz,σ',r,L',by first|(simp;done)|(simp[hwi];done),by omega,by omega,HN.out⟩
 have h1:decide ((i:Int)<(n:Int))=false:=decide_eq_false (by omega);have h2:¬(i:Int)<(n:Int):=by omega
 clear hst hi;go_wp2;go_ret2;have hp:=HST.out.1.perm;rw[List.take_of_length_le (by rw[←HH.out.2.2];omega)] at hp;exact⟨d,v,s,σ,root,L2,rfl,HST.out.1.dct.Ik (by omega),hp⟩
end Go.Proofs.YtngbdbpofifimaaGreat.Law15
namespace Go.Proofs.YtngbdbpofifimaaGreat.Store
open Go.RowKit Go.Sort Go.Proofs.YtngbdbpofifimaaGreat.ShaW Go.Proofs.YtngbdbpofifimaaGreat.Path Go.Proofs.YtngbdbpofifimaaGreat.Tag
theorem Ty:∃i,Tryz.prog.info? 29=some i∧i.zero=some (.slice none 0 0)∧i.size=1∧i.bytes=24:=by
 obtain⟨i,h1,h2⟩:=Option.map_eq_some_iff.1 (by kernel_rfl:(Tryz.prog.info? 29).map (fun i=>(i.zero,i.size,i.bytes))=some (some (.slice none 0 0),1,24));simp only[Prod.mk.injEq] at h2;exact⟨i,h1,h2.1,h2.2.1,h2.2.2⟩
def ZU (w:World) (vs:List Value) (ps:List (List UInt8)):Prop:=vs.length=ps.length∧∀(i:Nat) v p,vs[i]?=some v→ps[i]?=some p→Bytes w v p∧(p ≠ []→∀k,v.ownBlock=some k→k<w.heap.size)
theorem Ii {w:World} {ops:Array Oper} {rest:List Oper} {o:Oper} {a:Act} {Q:Exit→Act→World→Prop} (hgd:o.guard=none) (s x:Operand)
 (ho:o.op=.call { callee:=.builtin .append,args:=#[s,x],argTypes:=#[73,73] }) (v:Value) (n:Nat) (xs:List Value) (hs:a.eval s=v) (hown:w.ownsRow 0 29 1 v n xs)
 (ao:Option Addr) (m c:Nat) (l:List Value) (hx:a.eval x=.slice ao m c) (hm:l.length=m) (hI:∀i u,l[i]?=some u→∃g off,ao=some ⟨g,off,none⟩∧w.cell? ⟨g,off+i,none⟩=some u∧u.oneCell'=true) (hb:n+m≤1000000)
 (h:∀v' w',w'.ownsRow 0 29 1 v' (n+m) (xs++l)→w.grownBy w' v.ownBlock→(v'.ownBlock=v.ownBlock∨∀k,v'.ownBlock=some k→w.heap.size≤k)→wpList Tryz.prog ops Q rest (a.put o.dst v') w'):wpList Tryz.prog ops Q (o::rest) a w:=by
 obtain⟨i0,p1,p2,p3,p4⟩:=Ty;rcases Nat.eq_zero_or_pos m with h0|h0
 · have hnil:l = []:=List.eq_nil_of_length_eq_zero (by omega)
   subst hnil;subst h0
   obtain⟨base,cap,e,hle⟩:∃base cap,v=.slice base n cap∧n≤cap:=by
    rcases hown.2 with⟨rfl,h1⟩|⟨g,cap,cur,rfl,_,_,h3,_⟩
    · exact⟨none,0,by rw[h1],by omega⟩
    exact⟨_,cap,rfl,h3⟩
   have hsrc:Src Tryz.prog i0.size 73 (.slice ao 0 c) 0 [] w:=by
    cases ao with
    | none=>exact Src.ofNil w Tryz.underlying73 c
    | some ad=>exact Src.ofSlice w Tryz.underlying73 ad 0 c [] (by simp) (fun j u hu=>by simp at hu) (fun u hu=>by cases hu)
   refine wpList_plain hgd fun _ hK=>?_
   have hrun:=run_append_nothing (P:=Tryz.prog) w 73 73 o.type 29 i0 Tryz.underlying73 p1 base n cap hle _ hsrc;subst e;unfold Oper.wp;simp[execOp,ho,resolve,invoke,builtin,hs,hx,hrun,Result.andThen];exact hK _ _ (h _ w (by rw[List.append_nil];exact hown) ⟨rfl,rfl,rfl,Nat.le_refl _,fun _ _ _=>rfl⟩ (.inl rfl))
 obtain⟨g,off,rfl,_⟩:=hI 0 l[0] (List.getElem?_eq_getElem (by omega));refine Ak hgd s x 73 ho 29 i0 (.slice none 0 0) 1 24 Tryz.underlying73 p1 p2 p3 p4 rfl (by decide) v n xs hs hown ⟨g,off,none⟩ m c l hx (by simp[hm]) (fun j u hu=>?_) (fun u hu=>?_) (by unfold maxLen;omega) (by omega) h
 · obtain⟨g',off',e,hc,_⟩:=hI j u hu
   cases e;rw[add_plain];exact hc
 obtain⟨i,hi⟩:=List.getElem?_of_mem hu;obtain⟨_,_,_,_,h1⟩:=hI i u hi;exact h1
theorem Q2 {w:World} {v:Value} {ps:List (List UInt8)} (h:Hw w v ps):∃ao cap vs,v=.slice ao ps.length cap∧ZU w vs ps∧∀i u,vs[i]?=some u→∃g off,ao=some ⟨g,off,none⟩∧w.cell? ⟨g,off+i,none⟩=some u∧u.oneCell'=true:=by
 obtain⟨ao,cap,rfl,hat⟩:=h
 have one:∀i,i<ps.length→∃u,∃p,ps[i]?=some p∧(∃g off,ao=some ⟨g,off,none⟩∧w.cell? ⟨g,off+i,none⟩=some u)∧Bytes w u p∧(p ≠ []→∀k,u.ownBlock=some k→k<w.heap.size):=fun i hi=>by
  obtain⟨g,off,x,h1,h2,h3,h4⟩:=hat i ps[i] (List.getElem?_eq_getElem hi);exact⟨x,_,List.getElem?_eq_getElem hi,⟨g,off,h1,h2⟩,h3,h4⟩
 obtain⟨B,hB⟩:∃B:Nat→Value,∀i,i<ps.length→∃p,ps[i]?=some p∧(∃g off,ao=some ⟨g,off,none⟩∧w.cell? ⟨g,off+i,none⟩=some (B i))∧Bytes w (B i) p∧(p ≠ []→∀k,(B i).ownBlock=some k→k<w.heap.size):=by
  refine⟨fun i=>if hi:i<ps.length then Classical.choose (one i hi) else undef,fun i hi=>?_⟩;simp only[dif_pos hi];exact Classical.choose_spec (one i hi)
 refine⟨ao,cap,(List.range ps.length).map B,rfl,⟨by simp,fun i u p hu hp=>?_⟩,fun i u hu=>?_⟩
 · have hi:=(List.getElem?_eq_some_iff.1 hp).1
   obtain⟨p',hp',_,h3,h4⟩:=hB i hi;rw[hp] at hp';cases hp';obtain rfl:B i=u:=by simpa[hi] using hu
   exact⟨h3,h4⟩
 have hi:i<ps.length:=by have:=(List.getElem?_eq_some_iff.1 hu).1;simpa using this
 obtain⟨p',hp',⟨g,off,h1,h2⟩,h3,_⟩:=hB i hi;obtain rfl:B i=u:=by simpa[hi] using hu
 obtain⟨_,_,e,_⟩:=h3.form;exact⟨g,off,h1,h2,by rw[e];rfl⟩
section
variable {w : World}
theorem SH (t:UInt8) {v:Value} {ps:List (List UInt8)} (hp:Hw w v ps) (hlen:ps.flatten.length≤900000) (hn:ps.length≤100) :
 Calls Tryz.prog 237 #[bv t,v] w (Js w (t::ps.flatten)):=by
 obtain⟨ao,cap,vs,rfl,hv,hat⟩:=Q2 hp;obtain⟨n,hnn⟩:∃n,n=ps.length:=⟨_,rfl⟩
 have HP:=(hIq hat (aIq hnn (aIq hlen (aIq hn hv))))
 rw[←hnn];clear hat hnn hlen hn hv hp;obtain⟨tc,htc⟩:∃tc:Int,tc=(t.toNat:Nat):=⟨_,rfl⟩
 have hT:Value.int .u8 tc=bv t:=by rw[htc]
 rw[←hT];have HT:=Lib.hid hT;obtain⟨w2,hw2⟩:∃w2,w2=(w.alloc (.cells #[.int .u8 tc] 5)).alloc (.cells #[.slice (some ⟨w.heap.size,0,none⟩) 1 1] 29):=⟨_,rfl⟩
 have a2:Adds w w2:=by rw[hw2];exact((Ch.refl _ _).alloc _).alloc _
 have hb2:Bytes w2 (.slice (some ⟨w.heap.size,0,none⟩) 1 1) [t]:=⟨_,1,rfl,Nat.le_refl _,by unfold maxLen;decide,fun j x hx=>⟨w.heap.size,0,rfl,by
  have hj:j=0∧x=t:=by
   have:=(List.getElem?_eq_some_iff.1 hx).1;simp at this;subst this;simpa using hx.symm
  obtain⟨rfl,rfl⟩:=hj;rw[hw2, ←hT];exact AH (AM (heap_alloc_new _ _) _) rfl⟩⟩
 have ho2:w2.ownsRow 0 29 1 (.slice (some ⟨w.heap.size+1,0,none⟩) 1 1) 1 [.slice (some ⟨w.heap.size,0,none⟩) 1 1]:=by
  rw[hw2];refine⟨by simp,.inr ⟨w.heap.size+1,1, #[.slice (some ⟨w.heap.size,0,none⟩) 1 1],rfl,Nat.zero_le _,?_,Nat.le_refl _,by unfold maxLen;decide,rfl,by simp⟩⟩;have:=heap_alloc_new (w.alloc (.cells #[.int .u8 tc] 5)) (.cells #[.slice (some ⟨w.heap.size,0,none⟩) 1 1] 29);simpa using this
 have hs2:w2.heap.size=w.heap.size+2:=by rw[hw2];simp
 have H2:=(hIq a2 (aIq hb2 (aIq ho2 (aIq hw2 hs2))))
 clear a2 hb2 ho2 hw2 hT hs2 htc;go_enter Tryz.func237,Tryz.ntmps237
 go_wp2_with (first
  | fail
  | (at_builtin;rw[←H2.out.2.2.2.1];refine Ii rfl _ _ rfl (.slice (some ⟨w.heap.size+1,0,none⟩) 1 1) 1 [.slice (some ⟨w.heap.size,0,none⟩) 1 1] rfl H2.out.2.2.1 ao n cap vs rfl (by rw[HP.out.2.1];exact HP.out.2.2.2.2.1) (fun i u hu=>by obtain⟨g,off,h1,h2,h3⟩:=HP.out.1 i u hu;exact⟨g,off,h1,H2.out.1.cell h2 id,h3⟩) (by have:=HP.out.2.1;have:=HP.out.2.2.2.1;omega) ?_;intro v' w4 own' grow' loc'))
 have hch:Ch (fun k=>k=w.heap.size+1) w2 w4:=(Ch.refl _ _).grown grow' (fun k hk=>.inl (by cases hk;rfl));have hA4:Adds w w4:=H2.out.1.trans hch (fun k hk=>.inr (by rw[hk];exact Nat.le_succ _))
 have hpp:Hw w4 v' ([t]::ps):=by
  obtain⟨gg,cp,cur,rfl,hg,q1,q2,q3,q4⟩:=Cs own' (by omega);refine⟨_,cp,by rw[List.length_cons, ←HP.out.2.1,Nat.add_comm],fun i p hp=>?_⟩;cases i with
  | zero =>
   obtain rfl : [t]=p:=by simpa using hp
   have hk0:∀k,(Value.slice (some ⟨w.heap.size,0,none⟩) 1 1).ownBlock=some k→k=w.heap.size:=fun k hk=>by injection hk with hk;exact hk.symm
   refine⟨gg,0,_,rfl,AH hg (Dk q4 (i:=0) rfl),H2.out.2.1.Af hch (fun k hk e=>absurd (show k=w.heap.size+1 from e) (by have:=hk0 k hk;omega)),fun _ k hk=>?_⟩;have h1:=hk0 k hk;have h2:=hch.size;have h3:=H2.out.2.2.2.2;omega
  | succ i =>
   have hp':ps[i]?=some p:=by simpa using hp
   have hi:=(List.getElem?_eq_some_iff.1 hp').1;obtain⟨u,hu⟩:∃u,vs[i]?=some u:=⟨_,List.getElem?_eq_getElem (by rw[HP.out.2.2.2.2.1];exact hi)⟩
   obtain⟨hb,hbk⟩:=HP.out.2.2.2.2.2 i u p hu hp';refine⟨gg,0,u,rfl,AH hg (Dk q4 (i:=0+(i+1)) (by rw[Nat.zero_add];simpa using hu)),(hb.Af H2.out.1 (fun _ _ h=>h)).JN hch (fun h0 k hk e=>absurd (show k=w.heap.size+1 from e) (by have:=hbk h0 k hk;omega)),fun h0 k hk=>Nat.lt_of_lt_of_le (hbk h0 k hk) hA4.size⟩
 have hj:=R8 hpp (by simp;have:=HP.out.2.2.1;simp at this;omega) (by simp;have:=HP.out.2.2.2.1;omega);have HJ:=(hIq hj hA4)
 clear own' grow' loc' hch hA4 hpp hj;refine HJ.out.1.mono ?_;rintro e w5 ⟨q,rfl,hq,a5⟩;have H5:=(hIq hq a5)
 clear hq a5;go_wp2;go_ret;exact⟨q,rfl,H5.out.1.base (fun k hk=>Nat.le_trans HJ.out.2.size (H5.out.1.lt k hk).1),HJ.out.2.trans H5.out.2 (fun _=>fEq)⟩
end
end Go.Proofs.YtngbdbpofifimaaGreat.Store
namespace Go.Proofs.YtngbdbpofifimaaGreat.Store
open Go.RowKit Go.Proofs.YtngbdbpofifimaaGreat.ShaW Go.Proofs.YtngbdbpofifimaaGreat.Path
def Tr.sides (k:List UInt8):Tr→Nat→List (List UInt8)
 | .nil,_ => []
 | .leaf _ _,_ => []
 | .node l r,d=>if AU k d=0 then r.dig::Tr.sides k l (d+1) else l.dig::Tr.sides k r (d+1)
def Tr.stop (k:List UInt8):Tr→Nat→Tr
 | .nil,_=>.nil
 | .leaf a b,_=>.leaf a b
 | .node l r,d=>if AU k d=0 then Tr.stop k l (d+1) else Tr.stop k r (d+1)
def upD (k:List UInt8):List (List UInt8)→Nat→List UInt8→List UInt8
 | [],_,h=>h
 | s::l,d,h=>if AU k d=0 then Tag.DI (upD k l (d+1) h) s else Tag.DI s (upD k l (d+1) h)
theorem EX (k:List UInt8):∀(t:Tr) (d:Nat),(t.stop k d).isNode=false
 | .nil,_=>rfl
 | .leaf _ _,_=>rfl
 | .node l r,d=>by
  unfold Tr.stop;split
  · exact EX k l (d+1)
  exact EX k r (d+1)
theorem GQ (k:List UInt8):∀(t:Tr) (d:Nat),∀e∈(t.stop k d).ents,e∈t.ents
 | .nil,_,e,h=>h
 | .leaf _ _,_,e,h=>h
 | .node l r,d,e,h=>by
  unfold Tr.stop at h;split at h
  · exact List.mem_append.2 (.inl (GQ k l (d+1) e h))
  exact List.mem_append.2 (.inr (GQ k r (d+1) e h))
def Tr.Big:Tr→Prop
 | .nil=>True
 | .leaf _ _=>True
 | .node l r=>2≤l.leaves+r.leaves∧l.Big∧r.Big
section
variable {σ : AD Nd}
theorem On.sides {f:View} (hf:Fit f) {k:List UInt8} {h:Int} {d:Nat} {l:List Int} {e:Int} (ho:On f k h d l e):∀ {t:Tr},Rep f h d t →
 (t.sides k d).length=l.length∧(∀i x,l[i]?=some x→∃n,f x=some n∧n.kind=2∧n.depth=((d+i:Nat):Int)∧(t.sides k d)[i]?=some (Jb f (if AU k (d+i)=0 then n.right else n.left)))∧Rep f e (d+l.length) (t.stop k d):=by
 induction ho with
 | @stop h d h0 =>
  intro t hr;cases hr with
  | nil=>exact⟨rfl,fun i x hx=>by simp at hx,.nil⟩
  | leaf hn hk=>exact⟨rfl,fun i x hx=>by simp at hx,.leaf hn hk⟩
  | node hn hk hd _ _ =>
   rcases h0 with rfl|⟨n',hn',hk'⟩
   · rw[hf.zero] at hn;cases hn
   rw[hn] at hn';cases hn';exact absurd hk hk'
 | @step h d n l e hn hk hd hrest ih =>
  intro t hr;cases hr with
  | nil=>rw[hf.zero] at hn;cases hn
  | leaf hn' hk'=>rw[hn] at hn';cases hn';omega
  | @node _ _ n' a b hn' hk' hd' ha hb =>
   rw[hn] at hn';cases hn';have hk1:(Tr.node a b).sides k d=(if AU k d=0 then b.dig::a.sides k (d+1) else a.dig::b.sides k (d+1)):=rfl;have hk2:(Tr.node a b).stop k d=(if AU k d=0 then a.stop k (d+1) else b.stop k (d+1)):=rfl;rw[hk1,hk2];by_cases hbit:AU k d=0
   · rw[if_pos hbit] at ih ⊢
     rw[if_pos hbit];obtain⟨h1,h2,h3⟩:=ih ha;refine⟨by rw[List.length_cons,h1,List.length_cons],fun i x hx=>?_,by rw[List.length_cons,show d+(l.length+1)=d+1+l.length by omega];exact h3⟩;cases i with
     | zero =>
      obtain rfl:h=x:=by simpa using hx
      exact⟨n,hn,hk,hd,by rw[List.getElem?_cons_zero,Nat.add_zero,if_pos hbit,hb.dig hf]⟩
     | succ i =>
      obtain⟨m,q1,q2,q3,q4⟩:=h2 i x (by simpa using hx);exact⟨m,q1,q2,by rw[q3];congr 1;omega,by rw[List.getElem?_cons_succ,q4,show d+1+i=d+(i+1) by omega]⟩
   rw[if_neg hbit] at ih ⊢;rw[if_neg hbit];obtain⟨h1,h2,h3⟩:=ih hb;refine⟨by rw[List.length_cons,h1,List.length_cons],fun i x hx=>?_,by rw[List.length_cons,show d+(l.length+1)=d+1+l.length by omega];exact h3⟩;cases i with
   | zero =>
    obtain rfl:h=x:=by simpa using hx
    exact⟨n,hn,hk,hd,by rw[List.getElem?_cons_zero,Nat.add_zero,if_neg hbit,ha.dig hf]⟩
   | succ i =>
    obtain⟨m,q1,q2,q3,q4⟩:=h2 i x (by simpa using hx);exact⟨m,q1,q2,by rw[q3];congr 1;omega,by rw[List.getElem?_cons_succ,q4,show d+1+i=d+(i+1) by omega]⟩
end
def FQ:Tr→Array Value
 | .nil=>CG 0 Nd.z32 Nd.z32 Nd.z32 Nd.z32
 | .leaf k v=>CG 1 k (Tag.Av v) Nd.z32 Nd.z32
 | .node l r=>CG 2 Nd.z32 Nd.z32 l.dig r.dig
end Go.Proofs.YtngbdbpofifimaaGreat.Store
