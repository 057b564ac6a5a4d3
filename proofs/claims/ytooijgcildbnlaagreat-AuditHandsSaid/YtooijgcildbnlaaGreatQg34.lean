/- Laws of the layers below. -/
import Derived.Test.YtooijgcildbnlaaGreatQg33
set_option maxHeartbeats 3200000
set_option maxRecDepth 100000
set_option linter.unusedVariables false
namespace Go.Proofs.YtooijgcildbnlaaGreat.Store
open Go.RowKit Go.Proofs.YtooijgcildbnlaaGreat.ShaW Go.Proofs.YtooijgcildbnlaaGreat.Path Go.Proofs.YtooijgcildbnlaaGreat.CI
section
variable {w w' : World} {b : Nat} {F : Nat→Prop} {ρ : Rs} {σ : AD Nd}
theorem Sf (h:RAt w b F ρ) {n:Int} (hz0:ρ.sp n=Sp.zero) :
 Calls Tryz.prog 245 #[.pointer (some ⟨b,0,none⟩),.int .i64 n] w fun e w'=>e=.returned (.agg (AJ Nd.z32))∧Adds w w':=by
 obtain⟨Z,hZ⟩:∃Z,Z=AJ Nd.z32:=⟨_,rfl⟩
 have hzp:(Tryz.prog.info? 24).bind (·.zero)=some (.agg (AJ Nd.z32)):=Gf;have hzb:Tryz.prog.built 24 []=some (AJ Nd.z32):=by kernel_rfl
 rw[←hZ] at hzp hzb ⊢;have hZs:Z.size=32∧∀v∈Z.toList,v.oneCell'=true:=by rw[hZ];exact⟨rfl,Fs _⟩
 have a0:Adds w (w.alloc (.cells Z 24)):=(Ch.refl _ w).alloc _;have HE:=Lib.hid (Hh (h.adds a0) hz0);have HZ:=(hIq hzp (aIq hZs (aIq hzb a0)))
 clear hzp hzb hZs a0 h hz0 hZ;go_enter Tryz.func245,Tryz.ntmps245
 go_wp2_with (first
  | fail
  | ((with_reducible show zOq (.alloc 24));refine AH rfl 24 rfl (.agg Z) HZ.out.1 ?_;dsimp only[Value.cells];try simp only[World.size_alloc]))
 refine HE.out.mono ?_;rintro e w1 ⟨rfl,a1⟩;have hk1:=a1.row (heap_alloc_new w (.cells Z 24)) id;have H1:=(hIq hk1 (HZ.out.2.2.2.trans a1 (fun _=>fEq)))
 have hlt:=Ad hk1;clear a1 hk1
 go_wp2_with (first
  | fail
  | ((with_reducible show zOq (.build 24 #[]));refine BP rfl 24 rfl Z HZ.out.2.2.1 ?_)
  | ((with_reducible show zOq (.store 24 _ _));refine AE rfl 24 _ _ rfl w.heap.size 0 Z rfl rfl H1.out.1 (by rw[Au,HZ.out.2.1.1]) (by omega) HZ.out.2.1.2 Z (by rw[AI _ _ rfl]) ?_))
 exact AN (p:=4) rfl rfl (AF H1.out.1 _) Tryz.underlying24 rfl (by rw[Au,HZ.out.2.1.1]) rfl ⟨rfl,H1.out.2.setRow (.inr (Nat.le_refl _)) _⟩
theorem V4 (h:RAt w b F ρ) (L:Lk σ ρ) (G:Good σ) (n:Int) :
 Calls Tryz.prog 245 #[.pointer (some ⟨b,0,none⟩),.int .i64 n] w fun e w'=>e=.returned (.agg (AJ (nd σ n).key))∧Adds w w':=by
 cases hs:σ.get? n with
 | none =>
  rw[B9 hs];exact Sf h (L.none hs)
 | some s =>
  rcases Mz G hs with h1|h2
  · exact Ra h L G (by rw[Ay hs];exact h1)
  rw[Ay hs];exact P3 h L G hs h2
end
section
variable {P : Program}
theorem IH {w:World} {ops:Array Oper} {rest:List Oper} {o:Oper} {a:Act} {Q:Exit→Act→World→Prop} (hgd:o.guard=none) (s x:Operand) (t:TypeId)
 (ho:o.op=.call { callee:=.builtin .append,args:=#[s,x],argTypes:=#[t,t] }) (e:TypeId) (he:e=5) (i:TypeInfo) (ht:P.underlying t=some (.slice e)) (hi:P.info? e=some i) (hz:i.zero=some (.int .u8 0)) (hsize:i.size=1) (hby:i.bytes=1)
 (hs:a.eval s=.slice none 0 0) (xv:Value) (hx:a.eval x=xv) (bs:List UInt8) (hb:Bytes w xv bs) (hlen:bs.length≤140737488355328)
 (h:∀v' w',BM w' w.heap.size v' bs→Adds w w'→wpList P ops Q rest (a.put o.dst v') w'):wpList P ops Q (o::rest) a w :=
 wpList_plain hgd fun _ hK=>by
  obtain⟨v',w',hrun,r1,r2⟩:=Fc w t o.type e he i ht hi hz hsize hby xv bs hb hlen;unfold Oper.wp;simp[execOp,ho,resolve,invoke,builtin,hs,hx,hrun,Result.andThen];exact hK _ _ (h v' w' r1 r2)
end
theorem Rw {w:World} {s:Nat} {F:Nat→Prop} {σ:AD Nd} (h:At w s F σ) (n:Int) :
 Calls Tryz.prog 158 #[.pointer (some ⟨s,0,none⟩),.int .i64 n] w fun e w'=>∃v,e=.returned v∧BM w' w.heap.size v (nd σ n).value∧Adds w w':=by
 have hok:=h.ok n;have hg:=CT h n;have hbb:=h.bytes n;obtain⟨N,Z,hN,hn,hz⟩:=told h n;rw[←hN] at hg;have k0:N[66]?=some (nd σ n).addr:=by rw[hN];exact Nd.Jp hok
 have hvl:=hok.val;obtain⟨i0,hi,hz0,hz1,hz2⟩:=Lq;obtain⟨ao,len,cap,hA⟩:=hok.addr;rw[hA] at k0 hbb;generalize (nd σ n).value=bs at hbb hvl;have HG:=Lib.hid hg;have HN:=Lib.hid hn;have HZ:=Lib.hid hz;have HB:=Lib.hid hbb;have HI:=(hIq hi (aIq hz0 (aIq hz1 hz2)))
 have HV:=Lib.hid hvl;clear hok hg hN hn hz h hbb hi hz0 hz1 hz2 hA hvl;go_enter Tryz.func158,Tryz.ntmps158;go_wp2_with fail;refine HG.out.mono ?_;rintro e w1 ⟨rfl,hc1⟩;have c0:=AG (AF (heap_alloc_new w1 (.cells Z 159)) N) k0;have C1:=Lib.hid hc1;clear hc1 k0
 go_wp2_with (first
  | ((with_reducible show zOq (.alloc 159));refine AH rfl 159 rfl (.agg Z) HZ.out.1 ?_;dsimp only[Value.cells];try simp only[World.size_alloc])
  | ((with_reducible show zOq (.store 159 (.tmp 5) _));go_must (refine AE rfl 159 _ _ rfl w1.heap.size 0 N rfl rfl (heap_alloc_new _ _) (by rw[BX,HN.out.1]) (by rw[HN.out.1,HZ.out.2];omega) HN.out.2 N (by rw[AI _ _ (by rw[Array.length_toList,Array.length_toList,HN.out.1,HZ.out.2])]) ?_))
  | (at_builtin;refine IH rfl _ _ 73 rfl 5 rfl i0 Tryz.underlying73 HI.out.1 HI.out.2.1 HI.out.2.2.1 HI.out.2.2.2 rfl _ rfl bs (HB.out.Am ((C1.out.alloc _).setRow (.inr C1.out.size) _) (fun _ _ h=>h)) (by have:=HV.out;omega) ?_;intro v' w2 hb2 hc2;have HB2:=(hIq hb2 hc2);clear hb2 hc2))
 go_ret;refine⟨_,rfl,HB2.out.1.base (fun k hk=>?_),((C1.out.alloc _).setRow (.inr C1.out.size) _).trans HB2.out.2 (fun _=>fEq)⟩;have:=(HB2.out.1.lt k hk).1;have:=C1.out.size;simp at *;omega
def Ig (w:World) (x:Value) (all:List UInt8):Prop :=
 (x=.slice none 0 0∧all = [])∨∃g n,x=.slice (some ⟨g,0,none⟩) n all.length∧n≤all.length∧all.length≤maxLen∧w.heap[g]?=some (.cells (AJ all) 5 (0,0))
def Mu:Value→Value
 | .slice (some a) _ c=>.slice (some a) c c
 | _=>.slice none 0 0
section
variable {w w' : World} {x : Value} {all : List UInt8}
theorem BM.whole {n0:Nat} {v:Value} {bs:List UInt8} (h:BM w n0 v bs):∃all,Ig w v all:=by
 rcases h with⟨h1,h2⟩|⟨g,c,all,h1,h2,h3,h4,h5,h6,h7⟩
 · exact⟨[],.inl ⟨h1,rfl⟩⟩
 subst h4;exact⟨all,.inr ⟨g,_,h1,h7,h6,h3⟩⟩
theorem Ig.Am (h:Ig w x all) {C:Nat→Prop} (c:Ch C w w') (hd:∀k,x.ownBlock=some k→¬C k):Ig w' x all:=by
 rcases h with h|⟨g,n,rfl,h1,h2,h3⟩
 · exact .inl h
 exact .inr ⟨g,n,rfl,h1,h2,c.row h3 (hd g rfl)⟩
theorem Ig.form (h:Ig w x all):∃ao n,x=.slice ao n all.length∧(all.length:Int)≤9223372036854775807:=by
 rcases h with⟨rfl,rfl⟩|⟨g,n,rfl,h1,h2,h3⟩
 · exact⟨_,_,rfl,by decide⟩
 exact⟨_,_,rfl,by unfold maxLen at h2;omega⟩
theorem Ig.cut (h:Ig w x all) (w1:World):(Instr.sliceAt 73 x none (some (.int .i64 (all.length:Int))) none).run Tryz.prog w1=.ok (Mu x) w1:=by
 rcases h with⟨rfl,rfl⟩|⟨g,n,rfl,h1,h2,h3⟩
 · kernel_rfl
 exact Gr g n all.length h1 (by unfold maxLen at h2;omega) w1
theorem Ig.conv (h:Ig w x all):(convert 73 9 (Mu x)).run Tryz.prog w=.ok (.string (Iy all)) w:=by
 rcases h with⟨rfl,rfl⟩|⟨g,n,rfl,h1,h2,h3⟩
 · exact Et (Bytes.nil w)
 exact Et (Bytes.row (w:=w) h3 rfl h2)
theorem Ho (h:Ig w x all) :
 Calls Tryz.prog 83 #[x] w fun e w'=>(∃u,e=.returned u)∧Ch (fun k=>x.ownBlock=some k) w w'∧∃all',all'.length=all.length∧Ig w' x all':=by
 rcases h with⟨rfl,rfl⟩|⟨g,n,rfl,h1,h2,h3⟩
 · have hs:∀w0:World,(Instr.sliceAt 73 (.slice none 0 0) none (some (.int .i64 0)) none).run Tryz.prog w0=.ok (.slice none 0 0) w0:=fun w0=>by kernel_rfl
   go_enter Tryz.func83,Tryz.ntmps83;go_wp2;go_loopw [3] (fun i wr=>i=.int .i64 0∧wr=w) (fun i _=>0)
   case atStart=>exact⟨rfl,rfl⟩
   obtain⟨rfl,rfl⟩:=hrel;go_wp2;go_end0;exact⟨⟨_,rfl⟩,Ch.refl _ _,[],rfl,.inl ⟨rfl,rfl⟩⟩
 obtain⟨c,hc⟩:∃c,c=all.length:=⟨_,rfl⟩
 rw[←hc] at h1 h2 ⊢;have hs:=fun w1=>Gr g n c h1 (by unfold maxLen at h2;omega) w1
 have hcm:(c:Int)≤9223372036854775807:=by unfold maxLen at h2;omega
 have HAll:=(hIq h3 (aIq hc.symm (aIq h1 h2)))
 clear h1 h2 h3 hc;go_enter Tryz.func83,Tryz.ntmps83;go_wp2;go_loopw [3] (fun i wr=>∃(k:Nat) (l:List UInt8),k≤c∧i=.int .i64 k∧wr.heap[g]?=some (.cells (AJ l) 5 (0,0))∧l.length=c∧Ch (fun j=>j=g) w wr) (fun i _=>c-(intOf i).toNat)
 case atStart=>exact⟨0,all,Nat.zero_le _,rfl,HAll.out.1,HAll.out.2.1,Ch.refl _ _⟩
 obtain⟨k,l,hk,rfl,hrow,hl,hch⟩:=hrel;by_cases hlt:k<c
 · obtain⟨x,hx⟩:∃x,l[k]?=some x:=⟨_,List.getElem?_eq_getElem (by omega)⟩
   have c1:wr.cell? ⟨g,k,none⟩=some (bv x):=AG hrow (by unfold AJ;rw[List.getElem?_toArray,List.getElem?_map,hx];rfl);have f1:=Ao hrow k;have hb:=Ll x;have hkc:(k:Int)<(c:Int):=by omega
   have hset:=Aa hrow k (bv (GS x))
   have hbr:(AJ l).setIfInBounds k (bv (GS x))=AJ (l.set k (GS x)):=by
    apply Array.ext';simp[AJ,List.map_set]
   rw[hbr] at hset;have HS:=(hIq hset (aIq hl hch))
   generalize GS x=y at hb HS;clear hrow hx hset hbr hl hch hk;go_wp2;go_roundw
   case rel=>exact⟨k+1,_,by omega,by first|rfl|simp,HS.out.1,by rw[List.length_set];exact HS.out.2.1,HS.out.2.2.setCell (p:=⟨g,k,none⟩) (.inl rfl) _⟩
   simp[intOf];omega
 obtain rfl:k=c:=by omega
 have HC:=(hIq hch (aIq hrow hl))
 clear hrow hl hch hk hlt;go_wp2;go_end0;refine⟨⟨_,rfl⟩,HC.out.1.mono (fun j _ hj=>by rw[hj];rfl),l,HC.out.2.2,.inr ⟨g,n,by rw[HC.out.2.2],by rw[HC.out.2.2];exact HAll.out.2.2.1,by rw[HC.out.2.2];exact HAll.out.2.2.2,HC.out.2.1⟩⟩
def Fe (ls:Nat→Value) (bf:Nat→List UInt8) (gl:Nat) (wz:World):Prop:=(∀j,j<2→Ig wz (ls j) (bf j))∧wz.heap[gl]?=some (.cells #[ls 0,ls 1] 73 (0,0))
theorem Fe.Am {ls:Nat→Value} {bf:Nat→List UInt8} {gl:Nat} (h:Fe ls bf gl w) {C:Nat→Prop} (c:Ch C w w') (hd:∀j k,j<2→(ls j).ownBlock=some k→¬C k) (hg:¬C gl):Fe ls bf gl w' :=
 ⟨fun j hj=>(h.1 j hj).Am c (fun k hk=>hd j k hj hk),c.row h.2 hg⟩
theorem Fe.adds {ls:Nat→Value} {bf:Nat→List UInt8} {gl:Nat} (h:Fe ls bf gl w) (c:Adds w w'):Fe ls bf gl w':=h.Am c (fun _ _ _ _ h=>h) id
theorem Jt (ls:Nat→Value) {j:Nat} (hj:j<2):(#[ls 0,ls 1]:Array Value)[j]?=some (ls j):=by
 have:j=0∨j=1:=by omega
 rcases this with rfl|rfl<;>rfl
theorem Ss {ls:Nat→Value} {bf:Nat→List UInt8} {gl:Nat} (h:Fe ls bf gl w) (hd:∀i j k,i<2→j<2→i≠j→(ls i).ownBlock=some k→(ls j).ownBlock≠some k) (hgl:∀j,j<2→(ls j).ownBlock≠some gl) :
 Calls Tryz.prog 21 #[.slice (some ⟨gl,0,none⟩) 2 2] w fun e w'=>e=.returned (.bool true)∧Ch (fun k=>∃j,j<2∧(ls j).ownBlock=some k) w w'∧∃bf',Fe ls bf' gl w':=by
 have hmk:∀w:World,(Instr.makeSlice 90 (.int .i64 2) (.int .i64 2)).run Tryz.prog w=.ok (.slice (some ⟨w.heap.size,0,none⟩) 2 2) (w.alloc (.cells (madeCells #[.string ByteArray.empty] 2) 9)):=fun w =>
  run_make_row' 90 9 (.string ByteArray.empty) 16 Tryz.underlying90 (by kernel_rfl) rfl .i64 .i64 2 (by omega) (by omega) w
 obtain⟨MC,hMC⟩:∃MC,MC=madeCells #[Value.string ByteArray.empty] 2:=⟨_,rfl⟩
 have hMs:MC.size=2:=by rw[hMC];exact size_madeCells _ _
 rw[←hMC] at hmk;have HM:=Lib.hid hMs;have HH:=Lib.hid h;have HD:=(hIq hd hgl)
 have lgl:=Ad h.2;clear hMC hMs h hd hgl;go_enter Tryz.func21,Tryz.ntmps21;go_wp2;go_loopg [3,4,5,6] 2 (fun g s3 s4 s5 s6 wr=>∃(i:Nat) (af:Nat→List UInt8),i≤2∧g=2-i∧s3=.int .i64 i∧Fe ls af gl wr∧Ch (fun k=>∃j,j<2∧(ls j).ownBlock=some k) w wr)
 case atStart=>exact⟨0,bf,Nat.zero_le _,rfl,rfl,HH.out,Ch.refl _ _⟩
 obtain⟨i,af,hi,rfl,rfl,hL,hC⟩:=hrel;have HL:=(hIq hL hC)
 clear hL hC;by_cases hlt:i<2
 · have hi2:(i:Int)<2:=by omega
   go_wp2;obtain⟨w1,hw1⟩:∃w1,w1=wr.alloc (.cells MC 9):=⟨_,rfl⟩
   try rw[←hw1]
   have a1:Adds wr w1:=by rw[hw1];exact(Ch.refl _ _).alloc _
   have r1:w1.heap[wr.heap.size]?=some (.cells MC 9 (0,0)):=by rw[hw1];exact heap_alloc_new _ _
   have H1:=(hIq a1 r1)
   clear a1 r1 hw1;obtain⟨gw,hgw⟩:∃gw,gw=wr.heap.size:=⟨_,rfl⟩
   rw[←hgw] at H1 ⊢
   have hne:gw≠gl∧∀j k,j<2→(ls j).ownBlock=some k→k<gw:=by
    rw[hgw];refine⟨fun e=>by have:=Ad HL.out.1.2;omega,fun j k hj hk=>?_⟩;rcases HL.out.1.1 j hj with⟨e,_⟩|⟨g,n,e,_,_,h3⟩
    · rw[e] at hk;cases hk
    rw[e] at hk;cases hk;exact Ad h3
   have hwg:w.heap.size≤gw:=by rw[hgw];exact HL.out.2.size
   have HNE:=(hIq hne hwg)
   have HL1:=(hIq (HL.out.1.adds H1.out.1) (HL.out.2.trans H1.out.1 (fun _=>fEq)))
   clear hgw hne hwg;go_loopg [5] 2 (fun g s5 wx=>∃(k:Nat) (SS:Array Value),k≤2∧g=2-k∧s5=.int .i64 k∧SS.size=2∧(∀j,j<k→SS[j]?=some (.string (Iy (af j))))∧wx.heap[gw]?=some (.cells SS 9 (0,0))∧Ch (fun k=>k=gw) w1 wx)
   case atStart=>exact⟨0,MC,Nat.zero_le _,rfl,rfl,HM.out,fun j hj=>absurd hj (Nat.not_lt_zero j),H1.out.2,Ch.refl _ _⟩
   obtain⟨k,SS,hk,rfl,rfl,hsz,hin,hrow,hch⟩:=hrel;have hLx:Fe ls af gl wr:=HL1.out.1.Am hch (fun j k hj hk e=>by have:=HNE.out.1.2 j k hj hk;omega) (fun e=>HNE.out.1.1 e.symm);have HX:=(hIq hLx (aIq hch (aIq hsz (aIq hin hrow))))
   clear hLx hch hsz hin hrow;by_cases hkl:k<2
   · have hk2:(k:Int)<2:=by omega
     obtain⟨ao,n,hform,hcap⟩:=(HX.out.1.1 k hkl).form;have hcut:=fun w1=>(HX.out.1.1 k hkl).cut w1
     have hconv:=fun wz (hz:Fe ls af gl wz)=>(hz.1 k hkl).conv
     have hget:∀wz,Fe ls af gl wz→wz.cell? ⟨gl,k,none⟩=some (ls k):=fun wz hz=>AG hz.2 (Jt ls hkl)
     obtain⟨V,hV⟩:∃V,V=Mu (ls k):=⟨_,rfl⟩
     rw[←hV] at hcut hconv;obtain⟨T,hT⟩:∃T,T=Iy (af k):=⟨_,rfl⟩
     rw[←hT] at hconv;rw[hform] at hget hcut;obtain⟨cl,hcl⟩:∃cl,cl=(af k).length:=⟨_,rfl⟩
     rw[←hcl] at hget hcut hcap;obtain⟨old,hold⟩:∃old,SS[k]?=some old:=⟨_,Array.getElem?_eq_getElem (by rw[HX.out.2.2.1];exact hkl)⟩
     have HGT:=Lib.hid hget;have HCT:=Lib.hid hcut;have HCV:=Lib.hid hconv;have HT:=(hIq hT hold)
     clear hcl hT hV hform hget hcut hconv hold;go_wp2;refine AS (fun wz=>Fe ls af gl wz) 13 [(0,false),(1,false),(2,false),(3,false),(4,false),(5,false),(6,false),(7,false),(8,false),(9,false),(10,false),(11,false),(12,false)] (by kernel_rfl) (by kernel_rfl) ?_ ?_
     · exact HX.out.1.adds (Ch.refl _ _).drew
     iterate 5
      refine plan_look rfl rfl (fun w0 hS=>(by clear hS;go_simp;try rfl)) ?_;simp only[Act.put,nAq,nBq,nCq]
     refine plan_look (v:=.slice ao n cl) rfl rfl (fun w0 hS=>(by have c1:=HGT.out w0 hS;clear hS;go_simp;try rfl)) ?_;simp only[Act.put,nAq,nBq,nCq]
     iterate 3
      refine plan_look rfl rfl (fun w0 hS=>(by clear hS;go_simp;try rfl)) ?_;simp only[Act.put,nAq,nBq,nCq]
     refine plan_look (v:=.slice ao n cl) rfl rfl (fun w0 hS=>(by have c1:=HGT.out w0 hS;clear hS;go_simp;try rfl)) ?_;simp only[Act.put,nAq,nBq,nCq];refine plan_look (v:=.int .i64 (cl:Int)) rfl rfl (fun w0 hS=>(by clear hS;go_simp;try rfl)) ?_;simp only[Act.put,nAq,nBq,nCq];refine plan_look (v:=V) rfl rfl (fun w0 hS=>(by have q:=HCT.out w0;clear hS;go_simp;try rfl)) ?_;simp only[Act.put,nAq,nBq,nCq];refine GC rfl rfl 73 9 (.tmp 33) (.string T) rfl V rfl (fun w0 hS=>HCV.out w0 hS) ?_;simp only[Act.put,nAq,nBq,nCq];refine Ae ?_;simp only[List.drop_succ_cons,List.drop_zero];have c1:=AG (AQ HX.out.2.2.2.2) HT.out.2;have f1:=Ao (AQ HX.out.2.2.2.2) k;have l1:=Ad (AQ HX.out.2.2.2.2);go_wp2;refine NoPanic.normal ?_;go_wp2;go_roundg (2-(k+1))
     case measure=>omega
     refine⟨k+1,SS.setIfInBounds k (.string T),by omega,rfl,by go_num,by rw[Array.size_setIfInBounds];exact HX.out.2.2.1,fun j hj=>?_,Aa (AQ HX.out.2.2.2.2) k _,(HX.out.2.1.drew).setCell (p:=⟨gw,k,none⟩) (.inl rfl) _⟩;by_cases e:j=k
     · subst e
       rw[Array.getElem?_setIfInBounds_self_of_lt (by rw[HX.out.2.2.1];exact hkl),HT.out.1]
     rw[Array.getElem?_setIfInBounds_ne (Ne.symm e)];exact HX.out.2.2.2.1 j (by omega)
   obtain rfl:k=2:=by omega
   have hk2:¬(2:Int)<2:=by omega
   have HIN:=Lib.hid HX.out.2.2.2.1;have hgi:=AG HX.out.1.2 (Jt ls hlt);obtain⟨ai,ni,hfi,hci⟩:=(HX.out.1.1 i hlt).form;have hov:=Ho (HX.out.1.1 i hlt);have HFI:=Lib.hid hfi;rw[hfi] at hgi hov;obtain⟨ci,hci'⟩:∃ci,ci=(af i).length:=⟨_,rfl⟩
   rw[←hci'] at hgi hov hci HFI;have HOV:=Lib.hid hov;clear hov hci' hfi;go_wp2_with fail;refine HOV.out.mono ?_;rintro e w3 ⟨⟨u3,rfl⟩,c3,all3,hl3,hA3⟩
   have hw13:Ch (fun k=>∃j,j<2∧(ls j).ownBlock=some k) w w3:=by
    refine(HL1.out.2.trans HX.out.2.1 (fun k e=>?_)).trans c3 (fun k hk=>.inl ⟨i,hlt,by rw[HFI.out];exact hk⟩);exact .inr (by rw[e];exact HNE.out.2)
   have hL3:Fe ls (fun j=>if j=i then all3 else af j) gl w3:=by
    refine⟨fun j hj=>?_,c3.row HX.out.1.2 (fun e=>HD.out.2 i hlt (by rw[HFI.out];exact e))⟩;by_cases e:j=i
    · subst e
      simp only[if_true];rw[HFI.out];exact hA3
    simp only[if_neg e];exact(HX.out.1.1 j hj).Am c3 (fun k hk hk2=>HD.out.1 j i k hj hlt e hk (by rw[HFI.out];exact hk2))
   have hr3:=c3.row HX.out.2.2.2.2 (fun e=>by have:=HNE.out.1.2 i gw hlt (by rw[HFI.out];exact e);omega);have H3:=(hIq hL3 (aIq hw13 hr3))
   clear c3 hA3 hl3 hw13 hL3 hr3 hgi;go_wp2;go_loopg [6] 2 (fun g s6 wx=>∃k:Nat,k≤2∧g=2-k∧s6=.int .i64 k∧Adds w3 wx)
   case atStart=>exact⟨0,Nat.zero_le _,rfl,rfl,Ch.refl _ _⟩
   obtain⟨k,hk,rfl,rfl,hA⟩:=hrel;have HA:=Lib.hid hA;clear hA;by_cases hkl:k<2
   · have hk2:(k:Int)<2:=by omega
     by_cases hki:k=i
     · have hn1:((k:Int) != (i:Int))=false:=by simpa using (show(k:Int)=(i:Int) by omega)
       have hn2:¬ ¬(k:Int)=(i:Int):=by omega
       have hn3:decide ((k:Int)=(i:Int))=true:=decide_eq_true (by omega);have hn4:((k:Int) == (i:Int))=true:=by simpa using (show(k:Int)=(i:Int) by omega)
       go_wp2;refine AS (fun _=>True) 21 [(0,false),(1,false),(2,false),(3,false),(4,false),(5,false),(6,false),(7,false),(8,false),(9,false),(10,false),(11,false),(12,false),(13,false),(14,false),(15,false),(16,false),(17,false),(18,false),(19,false),(20,false)] (by kernel_rfl) (by kernel_rfl) ?_ ?_
       · trivial
       iterate 2
        refine plan_look rfl rfl (fun w0 hS=>(by clear hS;go_simp;try rfl)) ?_;simp only[Act.put,nAq,nBq,nCq]
       iterate 2
        refine plan_look (v:=.bool false) rfl rfl (fun w0 hS=>(by clear hS;go_simp;try rfl)) ?_;simp only[Act.put,nAq,nBq,nCq]
       iterate 16
        refine D8 rfl (by rfl) ?_;simp only[Act.put,nAq,nBq,nCq]
       refine plan_look (v:=.bool false) rfl rfl (fun w0 hS=>(by clear hS;go_simp;try rfl)) ?_;simp only[Act.put,nAq,nBq,nCq];refine Ae ?_;simp only[List.drop_succ_cons,List.drop_zero];go_wp2;refine NoPanic.normal ?_;go_wp2;go_roundg (2-(k+1))
       case measure=>omega
       exact⟨k+1,by omega,rfl,by go_num,HA.out.drew⟩
     have hn1:((k:Int) != (i:Int))=true:=by simpa using (show ¬(k:Int)=(i:Int) by omega)
     have hn2:¬(k:Int)=(i:Int):=by omega
     have hn4:((k:Int) == (i:Int))=false:=by simpa using (show ¬(k:Int)=(i:Int) by omega)
     have hbk:∀wz,Fe ls (fun j=>if j=i then all3 else af j) gl wz→Ig wz (ls k) (af k):=fun wz hz=>by
      have:=hz.1 k hkl;simp only[if_neg hki] at this;exact this
     obtain⟨ak,nk,hfk,hck⟩:=(hbk _ H3.out.1).form;have hcut:=fun w1=>(hbk _ H3.out.1).cut w1
     have hconv:=fun wz (hz:Fe ls (fun j=>if j=i then all3 else af j) gl wz)=>(hbk wz hz).conv
     have hget:∀wz,Fe ls (fun j=>if j=i then all3 else af j) gl wz→wz.cell? ⟨gl,k,none⟩=some (ls k):=fun wz hz=>AG hz.2 (Jt ls hkl)
     obtain⟨V,hV⟩:∃V,V=Mu (ls k):=⟨_,rfl⟩
     rw[←hV] at hcut hconv;have hin:=HIN.out k hkl;obtain⟨T,hT⟩:∃T,T=Iy (af k):=⟨_,rfl⟩
     rw[←hT] at hconv hin;rw[hfk] at hget hcut;obtain⟨cl,hcl⟩:∃cl,cl=(af k).length:=⟨_,rfl⟩
     rw[←hcl] at hget hcut hck;have HGT:=Lib.hid hget;have HCT:=Lib.hid hcut;have HCV:=Lib.hid hconv;have HINK:=Lib.hid hin;clear hcl hT hV hfk hget hcut hconv hin hbk;go_wp2;refine AS (fun wz=>Fe ls (fun j=>if j=i then all3 else af j) gl wz∧wz.heap[gw]?=some (.cells SS 9 (0,0))) 21 [(0,false),(1,false),(2,false),(3,false),(4,false),(5,false),(6,false),(7,false),(8,false),(9,false),(10,false),(11,false),(12,false),(13,false),(14,false),(15,false),(16,false),(17,false),(18,false),(19,false),(20,false)] (by kernel_rfl) (by kernel_rfl) ?_ ?_
     · exact⟨(H3.out.1.adds HA.out).adds (Ch.refl _ _).drew,AQ (HA.out.row H3.out.2.2 id)⟩
     iterate 2
      refine plan_look rfl rfl (fun w0 hS=>(by clear hS;go_simp;try rfl)) ?_;simp only[Act.put,nAq,nBq,nCq]
     iterate 2
      refine plan_look (v:=.bool true) rfl rfl (fun w0 hS=>(by clear hS;go_simp;try rfl)) ?_;simp only[Act.put,nAq,nBq,nCq]
     iterate 3
      refine plan_look rfl rfl (fun w0 hS=>(by clear hS;go_simp;try rfl)) ?_;simp only[Act.put,nAq,nBq,nCq]
     refine plan_look (v:=.slice ak nk cl) rfl rfl (fun w0 hS=>(by have c1:=HGT.out w0 hS.1;clear hS;go_simp;try rfl)) ?_;simp only[Act.put,nAq,nBq,nCq]
     iterate 3
      refine plan_look rfl rfl (fun w0 hS=>(by clear hS;go_simp;try rfl)) ?_;simp only[Act.put,nAq,nBq,nCq]
     refine plan_look (v:=.slice ak nk cl) rfl rfl (fun w0 hS=>(by have c1:=HGT.out w0 hS.1;clear hS;go_simp;try rfl)) ?_;simp only[Act.put,nAq,nBq,nCq];refine plan_look (v:=.int .i64 (cl:Int)) rfl rfl (fun w0 hS=>(by clear hS;go_simp;try rfl)) ?_;simp only[Act.put,nAq,nBq,nCq];refine plan_look (v:=V) rfl rfl (fun w0 hS=>(by have q:=HCT.out w0;clear hS;go_simp;try rfl)) ?_;simp only[Act.put,nAq,nBq,nCq];refine GC rfl rfl 73 9 (.tmp 60) (.string T) rfl V rfl (fun w0 hS=>HCV.out w0 hS.1) ?_;simp only[Act.put,nAq,nBq,nCq]
     iterate 3
      refine plan_look rfl rfl (fun w0 hS=>(by clear hS;go_simp;try rfl)) ?_;simp only[Act.put,nAq,nBq,nCq]
     refine plan_look (v:=.string T) rfl rfl (fun w0 hS=>(by have c1:=AG hS.2 HINK.out;clear hS;go_simp;try rfl)) ?_;simp only[Act.put,nAq,nBq,nCq];refine plan_look (v:=.bool false) rfl rfl (fun w0 hS=>(by clear hS;go_simp;try rfl)) ?_;simp only[Act.put,nAq,nBq,nCq];refine plan_look (v:=.bool false) rfl rfl (fun w0 hS=>(by clear hS;go_simp;try rfl)) ?_;simp only[Act.put,nAq,nBq,nCq];refine Ae ?_;simp only[List.drop_succ_cons,List.drop_zero];go_wp2;refine NoPanic.normal ?_;go_wp2;go_roundg (2-(k+1))
     case measure=>omega
     exact⟨k+1,by omega,rfl,by go_num,HA.out.drew⟩
   obtain rfl:k=2:=by omega
   have hk2:¬(2:Int)<2:=by omega
   have hL4:=H3.out.1.adds HA.out;have hg4:=AG hL4.2 (Jt ls hlt);have hov:=Ho (hL4.1 i hlt);rw[HFI.out] at hg4 hov;have H4:=(hIq hL4 (H3.out.2.1.trans HA.out (fun _=>fEq)))
   have HOV2:=Lib.hid hov;clear hov hL4;go_wp2_with fail;refine HOV2.out.mono ?_;rintro e w5 ⟨⟨u5,rfl⟩,c5,all5,hl5,hA5⟩
   have hL5:Fe ls (fun j=>if j=i then all5 else (if j=i then all3 else af j)) gl w5:=by
    refine⟨fun j hj=>?_,c5.row H4.out.1.2 (fun e=>HD.out.2 i hlt (by rw[HFI.out];exact e))⟩;by_cases e:j=i
    · subst e
      simp only[if_true];rw[HFI.out];exact hA5
    simp only[if_neg e];have:=H4.out.1.1 j hj;simp only[if_neg e] at this;exact this.Am c5 (fun k hk hk2=>HD.out.1 j i k hj hlt e hk (by rw[HFI.out];exact hk2))
   have H5:=(hIq hL5 (H4.out.2.trans c5 (fun k hk=>.inl ⟨i,hlt,by rw[HFI.out];exact hk⟩)))
   clear hL5 c5 hA5 hl5 hg4;go_wp2;go_roundg (2-(i+1))
   case measure=>omega
   exact⟨i+1,_,by omega,rfl,by go_num,H5.out.1,H5.out.2⟩
 obtain rfl:i=2:=by omega
 have hi2:¬(2:Int)<2:=by omega
 go_wp2;go_ret;exact⟨rfl,HL.out.2,af,HL.out.1⟩
end
section
variable {w0 w w' : World} {s b : Nat} {F G : Nat→Prop} {σ : AD Nd}
theorem J5 (GG:Good σ) (n:Int):(if (nd σ n).kind=2 then (nd σ n).depth else -1)=depth σ n:=by
 unfold depth;cases hs:σ.get? n with
 | none=>rw[B9 hs,DK hs];rfl
 | some x =>
  rw[Ay hs,Bq hs];by_cases h2:x.1.kind=2
  · rw[if_pos h2];rfl
  rw[if_neg h2];have:=(GG.fit.leaf (BV hs) h2).2.depth;have e:x.1.depth = -1:=this;rw[e];rfl
theorem ROw.Yg (h:ROw w0 w b σ G) (GG:Good σ) (n:Int):Calls Tryz.prog 163 #[.pointer (some ⟨b,0,none⟩),.int .i64 n] w fun e w'=>e=.returned (.bool (has σ n))∧Adds w w':=by
 obtain⟨ρ,F,h1,L,_⟩:=h;exact(EA h1 n).mono fun e w' ⟨he,hw⟩=>⟨by rw[he,L.has GG],hw▸Ch.refl _ _⟩
theorem ROw.Wr (h:ROw w0 w b σ G) (GG:Good σ) (n:Int):Calls Tryz.prog 164 #[.pointer (some ⟨b,0,none⟩),.int .i64 n] w fun e w'=>e=.returned (.int .i64 (depth σ n))∧Adds w w':=by
 obtain⟨ρ,F,h1,L,_⟩:=h;refine(JI h1 n).mono fun e w' ⟨he,a⟩=>⟨?_,a⟩
 rw[he, ←J5 GG n, ←L.depth GG n];rfl
theorem ROw.Xb (h:ROw w0 w b σ G) (GG:Good σ) (n:Int):Calls Tryz.prog 244 #[.pointer (some ⟨b,0,none⟩),.int .i64 n] w fun e w'=>e=.returned (.int .i64 (nd σ n).size)∧Adds w w':=by
 obtain⟨ρ,F,h1,L,_⟩:=h;exact TG h1 L GG n
theorem ROw.XP (h:ROw w0 w b σ G) (GG:Good σ) (n:Int):Calls Tryz.prog 98 #[.pointer (some ⟨b,0,none⟩),.int .i64 n] w fun e w'=>e=.returned (.int .i64 (σ.count n:Nat))∧Adds w w':=by
 obtain⟨ρ,F,h1,L,_⟩:=h;exact(I1 h1 n).mono fun e w' ⟨he,a⟩=>⟨by rw[he,L.count GG],a⟩
theorem ROw.YM (h:ROw w0 w b σ G) (GG:Good σ) (n:Int):Calls Tryz.prog 245 #[.pointer (some ⟨b,0,none⟩),.int .i64 n] w fun e w'=>e=.returned (.agg (AJ (nd σ n).key))∧Adds w w':=by
 obtain⟨ρ,F,h1,L,_⟩:=h;exact V4 h1 L GG n
end
theorem Tz:(Tryz.prog.info? 181).map (·.size)=some 3:=by kernel_rfl
theorem U7 {l:List (Int×Int×Int)} {i:Nat} {x:Int×Int×Int} (h:l[i]?=some x):((fdL l).drop (i*3)).take 3 = [.int .i64 x.1,.int .i64 x.2.1,.int .i64 x.2.2]:=by
 induction l generalizing i with
 | nil=>simp at h
 | cons y l ih =>
  cases i with
  | zero =>
   obtain rfl:y=x:=by simpa using h
   rfl
  | succ i =>
   have e:fdL (y::l) = [.int .i64 y.1,.int .i64 y.2.1,.int .i64 y.2.2]++fdL l:=rfl;rw[e,show(i+1)*3=3+i*3 by omega, ←List.drop_drop];exact ih (by simpa using h)
def MJ (w:World) (ao:Option Addr) (n cap:Nat) (l:List (Int×Int×Int)):Prop:=w.ownsRow 0 181 3 (.slice ao n cap) n (fdL l)∧l.length=n
section
variable {w w' : World} {ao bo : Option Addr} {n c1 c2 : Nat} {l : List (Int×Int×Int)}
theorem MJ.adds (h:MJ w ao n c1 l) (a:Adds w w'):MJ w' ao n c1 l:=⟨a.owns h.1 (fun _ _ h=>h),h.2⟩
theorem MJ.cell (h:MJ w ao n c1 l) {k:Nat} (hk:k<n):∃g x cur,ao=some ⟨g,0,none⟩∧l[k]?=some x∧w.heap[g]?=some (.cells cur 181 (0,0))∧k*3+3≤cur.size∧cur.extract (k*3) (k*3+3)=#[.int .i64 x.1,.int .i64 x.2.1,.int .i64 x.2.2]:=by
 obtain⟨x,hx⟩:∃x,l[k]?=some x:=⟨_,List.getElem?_eq_getElem (by have:=h.2;omega)⟩
 obtain⟨g,cap',cur,e,hg,h1,h2,h3,h4⟩:=BZ h.1 (by omega);injection e with e1 _ _;have hs:k*3+3≤n*3:=by omega
 have hc:n*3≤cur.size:=by rw[h3];exact Nat.mul_le_mul_right _ h1
 refine⟨g,x,cur,e1,hx,hg,by omega,?_⟩;apply Array.ext';rw[←U7 hx, ←h4];simp only[Array.toList_extract,List.extract];rw[List.drop_take,List.take_take,show k*3+3-k*3=3 by omega,Nat.min_eq_left (by omega)]
theorem Oh (h1:MJ w ao n c1 l) (h2:MJ w bo n c2 l) (hn:n≤65536) :
 Calls Tryz.prog 32 #[.slice ao n c1,.slice bo n c2] w fun e w'=>e=.returned (.bool true)∧Adds w w':=by
 have H:=(hIq h1 h2)
 have hn':(n:Int)≤65536:=by omega
 clear h1 h2;go_enter Tryz.func32,Tryz.ntmps32;go_wp2;go_loopg [5] n (fun g s5 wr=>∃k:Nat,k≤n∧g=n-k∧s5=.int .i64 k∧Adds w wr)
 case atStart=>exact⟨0,Nat.zero_le _,rfl,rfl,Ch.refl _ _⟩
 obtain⟨k,hk,rfl,rfl,hA⟩:=hrel;by_cases hkl:k<n
 · obtain⟨g1,x,cur1,rfl,hx,r1,s1,e1⟩:=(H.out.1.adds hA).cell hkl
   obtain⟨g2,x2,cur2,rfl,hx2,r2,s2,e2⟩:=(H.out.2.adds hA).cell hkl;rw[hx] at hx2;cases hx2;have hkz:(k:Int)<(n:Int):=by omega
   obtain⟨a,b,c⟩:=x;have HA:=Lib.hid hA;have H1:=(hIq r1 (aIq s1 e1))
   have H2:=(hIq r2 (aIq s2 e2))
   clear hA hx r1 s1 e1 r2 s2 e2;go_wp2;refine AS (fun wz=>wz=wr.drew) 9 [(0,false),(1,false),(2,false),(3,false),(4,false),(5,false),(6,false),(7,false),(8,false)] (by kernel_rfl) (by kernel_rfl) ?_ ?_
   · rfl
   iterate 3
    refine plan_look rfl rfl (fun w0 hS=>(by clear hS;go_simp;try rfl)) ?_;simp only[Act.put,nAq,nBq,nCq]
   refine CI.Cn (cur:=cur1) (t:=181) (fr:=(0,0)) rfl rfl 181 _ rfl g1 (k*3) 3 rfl (fun w0 hS=>by rw[hS];exact AQ H1.out.1) Tryz.underlying181 rfl Tz H1.out.2.1 #[.int .i64 a,.int .i64 b,.int .i64 c] H1.out.2.2 ?_;simp only[Act.put,nAq,nBq,nCq]
   iterate 3
    refine plan_look rfl rfl (fun w0 hS=>(by clear hS;go_simp;try rfl)) ?_;simp only[Act.put,nAq,nBq,nCq]
   refine CI.Cn (cur:=cur2) (t:=181) (fr:=(0,0)) rfl rfl 181 _ rfl g2 (k*3) 3 rfl (fun w0 hS=>by rw[hS];exact AQ H2.out.1) Tryz.underlying181 rfl Tz H2.out.2.1 #[.int .i64 a,.int .i64 b,.int .i64 c] H2.out.2.2 ?_;simp only[Act.put,nAq,nBq,nCq];refine plan_look (v:=.bool false) rfl rfl (fun w0 hS=>(by clear hS;go_simp;try rfl)) ?_;simp only[Act.put,nAq,nBq,nCq];refine Ae ?_;simp only[List.drop_succ_cons,List.drop_zero];go_wp2;refine NoPanic.normal ?_;go_wp2;go_roundg (n-(k+1))
   case measure=>omega
   exact⟨k+1,by omega,rfl,by go_num,HA.out.drew⟩
 obtain rfl:k=n:=by omega
 have hkz:¬(k:Int)<(k:Int):=by omega
 have HA:=Lib.hid hA;clear hA;go_wp2;go_ret;exact⟨rfl,HA.out⟩
end
section
variable {σ : AD Nd} {R : List Int} {w0 w : World} {s b : Nat} {F G : Nat→Prop} {ao : Option Addr}
def FQ (w w':World) (σ:AD Nd) (R:List Int) (e:Ending):Prop:=∃n:Nat,e=.returned (.tuple #[.int .i64 (n:Nat),.int .i64 (chk σ R)])∧Adds w w'∧((chk σ R≠0∧n=0)∨(chk σ R=0∧∃k,Wanting σ R k.todo.length k∧n=(k.todo.filter fun x=>decide (1<k.cnt x)).length))
theorem O2 (h:At w s F σ) (GG:Good σ) (cap:Nat) (hR:Az w ao R) (hl:R.length<4611686018427387904) :
 Calls Tryz.prog 30 #[.pointer (some ⟨s,0,none⟩),.slice ao R.length cap] w fun e w'=>FQ w w' σ R e:=by
 unfold FQ;by_cases hc:chk σ R=0
 · exact(OG h GG cap hR hc).mono fun e w' ⟨k,he,hW,ha⟩=>⟨_,by rw[he,hc],ha,.inr ⟨hc,k,hW,rfl⟩⟩
 exact(Oy h cap hR hl hc).mono fun e w' ⟨he,ha⟩=>⟨0,he,ha,.inl ⟨hc,rfl⟩⟩
theorem M0 (h:ROw w0 w b σ G) (GG:Good σ) (cap:Nat) (hR:Az w ao R) (hl:R.length<4611686018427387904) :
 Calls Tryz.prog 31 #[.pointer (some ⟨b,0,none⟩),.slice ao R.length cap] w fun e w'=>FQ w w' σ R e:=by
 unfold FQ;by_cases hc:chk σ R=0
 · exact(MI h GG cap hR hc).mono fun e w' ⟨k,he,hW,ha⟩=>⟨_,by rw[he,hc],ha,.inr ⟨hc,k,hW,rfl⟩⟩
 exact(NX h GG cap hR hl hc).mono fun e w' ⟨he,ha⟩=>⟨0,he,ha,.inl ⟨hc,rfl⟩⟩
def IsF (σ:AD Nd) (R:List Int) (l:List (Int×Int×Int)):Prop:=(chk σ R≠0∧l = [])∨(chk σ R=0∧∃k,Wanting σ R k.todo.length k∧l=IL σ k.cnt)
theorem IsF.same {l1 l2:List (Int×Int×Int)} (h1:IsF σ R l1) (h2:IsF σ R l2):l1=l2:=by
 rcases h1 with⟨n1,rfl⟩|⟨z1,k1,W1,rfl⟩
 · rcases h2 with⟨_,rfl⟩|⟨z2,_⟩
   · rfl
   exact absurd z2 n1
 rcases h2 with⟨n2,_⟩|⟨_,k2,W2,rfl⟩
 · exact absurd z1 n2
 rw[(W1.same W2).2]
theorem IsF.len {l:List (Int×Int×Int)} (h:IsF σ R l) (GG:Good σ):l.length≤65536:=by
 rcases h with⟨_,rfl⟩|⟨_,k1,W1,rfl⟩
 · simp
 exact Nat.le_trans (IE _ _ _) (Ew GG)
def IsI (σ:AD Nd) (R:List Int) (p:Wk→List Int) (l:List Int):Prop:=(chk σ R≠0∧l = [])∨(chk σ R=0∧∃k,Wanting σ R k.todo.length k∧l=p k)
end
end Go.Proofs.YtooijgcildbnlaaGreat.Store
