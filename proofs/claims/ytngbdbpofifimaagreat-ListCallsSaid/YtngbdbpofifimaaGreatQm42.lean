/- Laws of the layers below. -/
import Derived.Test.YtngbdbpofifimaaGreatQm41
set_option maxHeartbeats 3200000
set_option maxRecDepth 100000
set_option linter.unusedVariables false
namespace Go.Proofs.YtngbdbpofifimaaGreat.Store
open Go.RowKit Go.Proofs.YtngbdbpofifimaaGreat.ShaW Go.Proofs.YtngbdbpofifimaaGreat.Path Go.Proofs.YtngbdbpofifimaaGreat.Bk
section
variable {w0 w w' : World} {c s b n i : Nat} {σ : AG Nd} {root : Int} {L : Av} {A : List (Int×Av)} {G : Nat→Prop}
theorem C8:(Aq A).length=A.length:=by simp[Aq]
theorem Sce.hold (P:Sce σ root L A n i) (hi:i≤16) (h0:root≠0) (hl:A.length≤8):(Au σ root).1=0∧Sce (Au σ root).2 root L (A ++ [(root,L)]) n (i+1):=by
 have ht:=P.tot;obtain⟨h1,h2,_,h4,h5⟩:=P.roots.hold h0 (by omega);refine⟨h1,h2.perm ?_,fun p hp=>?_,by rw[List.length_append];simp;omega,by omega,by rw[h5];exact P.room⟩
 · refine List.Perm.cons _ ?_
   exact(List.perm_append_comm (l₁ := [(root,L)]) (l₂:=A))
 rcases List.mem_append.1 hp with hp|hp
 · exact P.nz p hp
 obtain rfl:=List.mem_singleton.1 hp;exact h0
theorem OM (h:ScAt w0 w c s b σ σ root (Aq A) G) (P:Sce σ root L A n i) (x:Bc) (hx:x.Good w0) (hk:x.kind=1) (hn:root=0∨8<A.length) :
 Calls Tryz.prog 71 #[.pointer (some ⟨c,0,none⟩),.agg x.cells] w fun e w'=>DM w0 w' c s b n i G e:=by
 unfold DM;have q0:=Bc.Ar (x:=x);have a0:AN w (w.alloc (.cells x.cells 146)):=(Ch.refl (fun _=>False) w).alloc _;obtain⟨X,hX⟩:∃X,X=x.cells:=⟨_,rfl⟩
 rw[hk, ←hX] at q0;rw[←hX] at a0;rw[←hX];obtain⟨aa,ac,hr,_⟩:=h.row;rw[C8] at hr;obtain⟨m,hm⟩:∃m,m=A.length:=⟨_,rfl⟩
 rw[←hm] at hr hn;have HS:=(hIq (h.adds a0) P)
 have hra:=AQ hr (.cells X 146);have ck:=AH (heap_alloc_new w (.cells X 146)) q0;have c2:=AH hra (i:=2) rfl;have c3:=AH hra (i:=3) rfl;clear h P q0 hX hk hx a0 hr hm hra;by_cases h0:root=0
 · subst h0
   clear hn;go_enter Tryz.func71,Tryz.ntmps71;go_wp2;go_ret;exact⟨rfl,_,_,_,_,HS.out.1,HS.out.2.next⟩
 have h0b:(root == 0)=false:=by simpa using h0
 have h8:decide (8<(m:Int))=true:=decide_eq_true (by have:=hn.resolve_left h0;omega);clear hn h0;go_enter Tryz.func71,Tryz.ntmps71;go_wp2;go_ret;exact⟨rfl,_,_,_,_,HS.out.1,HS.out.2.next⟩
theorem Np (h:ScAt w0 w c s b σ σ root (Aq A) G) (P:Sce σ root L A n i) (hi:i≤16) (x:Bc) (hx:x.Good w0) (hk:x.kind=1) (h0:root≠0) (h8:A.length≤8) :
 Calls Tryz.prog 71 #[.pointer (some ⟨c,0,none⟩),.agg x.cells] w fun e w'=>DM w0 w' c s b n i G e:=by
 unfold DM;have q0:=Bc.Ar (x:=x);obtain⟨ph,PH⟩:=P.hold hi h0 h8;have hsl:=h;obtain⟨i0,hi0,hz0,hz1,hz2⟩:=SlabN.DZ;have HI:=(hIq hi0 (aIq hz0 (aIq hz1 hz2)))
 have a0:AN w (w.alloc (.cells x.cells 146)):=(Ch.refl (fun _=>False) w).alloc _;obtain⟨X,hX⟩:∃X,X=x.cells:=⟨_,rfl⟩
 rw[hk, ←hX] at q0;rw[←hX] at a0;rw[←hX];obtain⟨aa,ac,hr,hown⟩:=(h.adds a0).row;have hfl:=C8 (A:=A);obtain⟨m,hm⟩:∃m,m=(Aq A).length:=⟨_,rfl⟩
 rw[←hm] at hr hown hfl;have HS:=(hIq (h.adds a0) (aIq P.roots.good (aIq PH ph)))
 have HR:=(hIq hr hown)
 have HM:=Lib.hid hm;have ck:=AH (heap_alloc_new w (.cells X 146)) q0;have c2:=AH hr (i:=2) rfl;have c3:=AH hr (i:=3) rfl;have h0b:(root == 0)=false:=by simpa using h0
 have h8b:decide (8<(m:Int))=false:=decide_eq_false (by omega);have hm8:m≤8:=by omega
 obtain⟨w1,hw1⟩:∃w1,w1=w.alloc (.cells X 146):=⟨_,rfl⟩
 rw[←hw1] at HS HR;have lc:=Ad HR.out.1;clear h P q0 hX hk hx a0 hr hm h0 h8 PH ph hsl hown hfl hi0 hz0 hz1 hz2;go_enter Tryz.func71,Tryz.ntmps71;go_upto_region 10 with fail;refine DQ (fun w2 hw2=>?_);have e12:w2=w1:=by rw[hw2,hw1]
 subst e12;clear hw1 hw2 ck c2 c3;refine AP (fun wz=>wz.heap[c]?=some (.cells #[.pointer (some ⟨s,0,none⟩),.pointer (some ⟨b,0,none⟩),.int .i64 root,.slice aa m ac] 63 (0,0))) 11 [(0,false),(1,false),(2,false),(3,false),(4,false),(5,false),(6,false),(7,false),(8,false),(9,true),(10,true)] (by kernel_rfl) (by kernel_rfl) ?_ ?_
 · exact AM HR.out.1
 iterate 4
  refine plan_look rfl rfl (fun w0 hS=>(by clear hS;go_simp;try rfl)) ?_;simp only[Act.put,nAq,nBq,nCq]
 refine plan_look (v:=.slice aa m ac) rfl rfl (fun w0 hS=>(by have c1:=AH hS (i:=3) rfl;clear hS;go_simp;try rfl)) ?_;simp only[Act.put,nAq,nBq,nCq]
 iterate 3
  refine plan_look rfl rfl (fun w0 hS=>(by clear hS;go_simp;try rfl)) ?_;simp only[Act.put,nAq,nBq,nCq]
 refine plan_look (v:=.int .i64 root) rfl rfl (fun w0 hS=>(by have c1:=AH hS (i:=2) rfl;clear hS;go_simp;try rfl)) ?_;simp only[Act.put,nAq,nBq,nCq];refine AW rfl ?_;go_wp2;obtain⟨w3,hw3⟩:∃w3,w3=(w2.alloc (.cells #[.int .i64 root] 3)).drew:=⟨_,rfl⟩
 rw[←hw3];have r3:w3.heap[c]?=some (.cells #[.pointer (some ⟨s,0,none⟩),.pointer (some ⟨b,0,none⟩),.int .i64 root,.slice aa m ac] 63 (0,0)):=by rw[hw3];exact AM (AQ HR.out.1 _)
 have a3:AN w2 w3:=by rw[hw3];exact((Ch.refl _ _).alloc _).drew
 have n3:w3.cell? ⟨w2.heap.size,0,none⟩=some (.int .i64 root):=by
  rw[hw3];exact AH (AM (heap_alloc_new w2 (.cells #[.int .i64 root] 3))) rfl
 have H3:=(hIq r3 (aIq a3 (aIq (a3.owns HR.out.2 (fun _ _ h=>h)) n3)))
 clear hw3 r3 a3 n3 lc;refine⟨H3.out.1,?_⟩;refine AW rfl ?_;refine BI rfl (.tmp 55) (.tmp 60) 61 rfl 3 i0 (.int .i64 0) 1 8 Tryz.underlying61 HI.out.1 HI.out.2.1 HI.out.2.2.1 HI.out.2.2.2 rfl (by decide) (.slice aa m ac) m (hl (Aq A)) rfl H3.out.2.2.1 ⟨w2.heap.size,0,none⟩ 1 1 [.int .i64 root] rfl rfl (fun j u hu=>?_) (by simp[Value.oneCell']) (by unfold maxLen;omega) (by omega) ?_
 · have hj:j=0:=by
    have:=(List.getElem?_eq_some_iff.1 hu).1;simp at this;exact this
   subst hj;cases hu;exact H3.out.2.2.2
 intro v' w4 own' grow' ob';obtain⟨ro,rc,rfl⟩:=Am own';have ch4:Ch (fun k=>(Value.slice aa m ac).ownBlock=some k) w2 w4:=((H3.out.2.1.mono (G:=fun k=>(Value.slice aa m ac).ownBlock=some k) (fun _ _ h=>h.elim))).grown grow' (fun j hj=>.inl hj)
 have hne:¬(Value.slice aa m ac).ownBlock=some c:=fun e=>by
  obtain⟨_,_,_,vA,_,_,_,q4,_,_,_,_,q9,_⟩:=HS.out.1;rw[HR.out.1] at q4;simp only[Option.some.injEq,Obj.cells.injEq,and_true,true_and,Array.mk.injEq,List.cons.injEq,and_self] at q4;subst q4;exact(q9 c e).2.1 rfl
 have r4:=ch4.row HR.out.1 hne
 have S4:ScAt w0 (w4.setCell ⟨c,3,none⟩ (.slice ro (m+1) rc)) c s b σ σ root (Aq (A ++ [(root,L)])) G:=by
  refine HS.out.1.Nv HR.out.1 ch4 ?_ (ob'.imp id (fun h k hk=>Nat.le_trans H3.out.2.1.size (h k hk)));have e1:(Aq (A ++ [(root,L)])).length=m+1:=by rw[HM.out];simp[Aq]
  have e2:hl (Aq (A ++ [(root,L)]))=hl (Aq A) ++ [.int .i64 root]:=by simp[Aq,Store.hl]
  rw[e1,e2];exact own'
 have H4:=Lib.hid S4;have c3:=AH r4 (i:=3) rfl;have f3:=Ai r4 3;have l4:=Ad r4;refine wpList_nil ?_;change _∧_;refine⟨r4,?_⟩;clear own' grow' ob' ch4 hne S4 r4;refine AZ ?_;simp only[List.drop_succ_cons,List.drop_zero,Act.put,List.setIfInBounds_toArray,List.set_cons_succ,List.set_cons_zero];go_wp2;refine NoPanic.normal ?_;obtain⟨w5,hw5⟩:∃w5,w5=w4.setCell ⟨c,3,none⟩ (.slice ro (m+1) rc):=⟨_,rfl⟩
 rw[←hw5];have S5:ScAt w0 w5 c s b σ σ root (Aq (A ++ [(root,L)])) G:=by rw[hw5];exact H4.out
 obtain⟨aa5,ac5,r5,_⟩:=S5.row
 have hH1:∀w6,ScAt w0 w6 c s b σ σ root (Aq (A ++ [(root,L)])) G→Calls Tryz.prog 130 #[.pointer (some ⟨s,0,none⟩),.int .i64 root] w6 fun e w'=>∃σ',(e=.returned (.int .i64 0)∧σ'=(Au σ root).2)∧ScAt w0 w' c s b σ' σ root (Aq (A ++ [(root,L)])) G∧But G w6 w':=fun w6 S6=>by
  refine ScAt.impl (P:=fun e σ'=>e=.returned (.int .i64 0)∧σ'=(Au σ root).2) S6 (fun G' o=>?_);have:=o.hold root;rw[HS.out.2.2.2] at this;exact this.mono fun e w' ⟨he,ho,hB⟩=>⟨_,⟨he,rfl⟩,ho,hB⟩
 have hH2:∀w6 σ',ScAt w0 w6 c s b σ' σ root (Aq (A ++ [(root,L)])) G→Calls Tryz.prog 155 #[.pointer (some ⟨b,0,none⟩),.int .i64 root] w6 fun e w'=>∃τ',(e=.returned (.int .i64 0)∧τ'=(Au σ root).2)∧ScAt w0 w' c s b σ' τ' root (Aq (A ++ [(root,L)])) G∧But G w6 w':=fun w6 σ' S6=>by
  refine ScAt.Va (P:=fun e τ'=>e=.returned (.int .i64 0)∧τ'=(Au σ root).2) S6 (fun G' o=>?_);have:=o.hold HS.out.2.1 root;rw[HS.out.2.2.2] at this;exact this.mono fun e w' ⟨he,ho,hB⟩=>⟨_,⟨he,rfl⟩,ho,hB⟩
 have H5:=(hIq S5 r5)
 have HH1:=Lib.hid hH1;have HH2:=Lib.hid hH2;clear hw5 S5 r5 hH1 hH2 H4 H3 c3 f3 l4;go_wp2;refine AP (fun wz=>∃va,wz.heap[c]?=some (.cells #[.pointer (some ⟨s,0,none⟩),.pointer (some ⟨b,0,none⟩),.int .i64 root,va] 63 (0,0))) 19 [(0,false),(1,false),(2,false),(3,false),(4,false),(5,false),(6,false),(7,false),(9,false),(10,false),(11,false),(12,false),(13,false),(14,false),(15,false),(16,false),(8,true),(17,true),(18,false)] (by kernel_rfl) (by kernel_rfl) ?_ ?_
 · exact⟨_,AM H5.out.2⟩
 iterate 3
  refine plan_look rfl rfl (fun w0 hS=>(by clear hS;go_simp;try rfl)) ?_;simp only[Act.put,nAq,nBq,nCq]
 refine plan_look (v:=.pointer (some ⟨s,0,none⟩)) rfl rfl (fun w0 hS=>(by obtain⟨va,hva⟩:=hS;have c1:=AH hva (i:=0) rfl;clear hva;go_simp;try rfl)) ?_;simp only[Act.put,nAq,nBq,nCq]
 iterate 3
  refine plan_look rfl rfl (fun w0 hS=>(by clear hS;go_simp;try rfl)) ?_;simp only[Act.put,nAq,nBq,nCq]
 refine plan_look (v:=.int .i64 root) rfl rfl (fun w0 hS=>(by obtain⟨va,hva⟩:=hS;have c1:=AH hva (i:=2) rfl;clear hva;go_simp;try rfl)) ?_;simp only[Act.put,nAq,nBq,nCq]
 iterate 3
  refine plan_look rfl rfl (fun w0 hS=>(by clear hS;go_simp;try rfl)) ?_;simp only[Act.put,nAq,nBq,nCq]
 refine plan_look (v:=.pointer (some ⟨b,0,none⟩)) rfl rfl (fun w0 hS=>(by obtain⟨va,hva⟩:=hS;have c1:=AH hva (i:=1) rfl;clear hva;go_simp;try rfl)) ?_;simp only[Act.put,nAq,nBq,nCq]
 iterate 3
  refine plan_look rfl rfl (fun w0 hS=>(by clear hS;go_simp;try rfl)) ?_;simp only[Act.put,nAq,nBq,nCq]
 refine plan_look (v:=.int .i64 root) rfl rfl (fun w0 hS=>(by obtain⟨va,hva⟩:=hS;have c1:=AH hva (i:=2) rfl;clear hva;go_simp;try rfl)) ?_;simp only[Act.put,nAq,nBq,nCq];refine AW rfl ?_;go_wp2_with fail;refine(HH1.out _ (H5.out.1.adds (Ch.refl _ _).drew)).mono ?_;rintro e w6 ⟨σ',⟨rfl,hs'⟩,S6,_⟩;obtain⟨aa6,ac6,r6,_⟩:=S6.row;have H6:=(hIq S6 (aIq r6 hs'))
 clear S6 r6 hs';dsimp only;go_step;refine wpList_nil ?_;change _∧_;refine⟨⟨_,H6.out.2.1⟩,?_⟩;refine AW rfl ?_;go_wp2_with fail;refine(HH2.out _ _ H6.out.1).mono ?_;rintro e w7 ⟨τ',⟨rfl,ht'⟩,S7,_⟩;obtain⟨aa7,ac7,r7,_⟩:=S7.row;have H7:=(hIq S7 (aIq r7 ht'))
 clear S7 r7 ht';dsimp only;go_step;refine wpList_nil ?_;change _∧_;refine⟨⟨_,H7.out.2.1⟩,?_⟩;refine plan_look (v:=.bool true) rfl rfl (fun w0 hS=>(by clear hS;go_simp;try rfl)) ?_;simp only[Act.put,nAq,nBq,nCq];refine AZ ?_;simp only[List.drop_succ_cons,List.drop_zero];go_wp2;refine NoPanic.normal ?_;go_wp2;go_ret;refine⟨rfl,(Au σ root).2,root,L,A ++ [(root,L)],?_,HS.out.2.2.1⟩;have:=H7.out.1;rw[H7.out.2.2,H6.out.2.2] at this;exact this
end
theorem Ry (x:Int) (n:Nat) (hn:0<n) (hn2:n≤1000000) (w:World):Calls Tryz.prog 7 #[.int .i64 x,.int .i64 n] w fun e w'=>e=.returned (.int .i64 (pick x n))∧w=w':=by
 have h1:=Int.lt_tmod_of_pos x (show(0:Int)<n by omega);have h2:=Int.tmod_lt_of_pos x (show(0:Int)<n by omega);have hw0:IntKind.i64.wrap (Int.tmod x n)=Int.tmod x n:=IntWalk.i64_in _ (by omega);have hw:IntKind.i64.wrap (Int.tmod x n+n)=Int.tmod x n+n:=IntWalk.i64_in _ (by omega);have hz:((n:Int) == 0)=false:=by simpa using (show ¬(n:Int)=0 by omega)
 unfold pick;by_cases h0:Int.tmod x n<0
 · rw[if_pos h0]
   go_enter Tryz.func7,Tryz.ntmps7;go_wp2;go_ret;exact⟨rfl,rfl⟩
 rw[if_neg h0];have hx0:decide (Int.tmod x n<0)=false:=decide_eq_false h0;go_enter Tryz.func7,Tryz.ntmps7;go_wp2;go_ret;exact⟨rfl,rfl⟩
section
variable {w0 w w' : World} {c s b n i : Nat} {σ : AG Nd} {root : Int} {L : Av} {A : List (Int×Av)} {G : Nat→Prop}
theorem Sce.drop (P:Sce σ root L A n i) {k:Nat} {p:Int×Av} (hk:A[k]?=some p):(Aw σ p.1).2.1=0∧Sce (Aw σ p.1).2.2 root L (A.eraseIdx k) n (i+1):=by
 have hlt:=(List.getElem?_eq_some_iff.1 hk).1
 have hp:A.Perm (p::A.eraseIdx k):=by
  have e:A=A.take k++p::A.drop (k+1):=by
   obtain⟨_,rfl⟩:=List.getElem?_eq_some_iff.1 hk;rw[←List.drop_eq_getElem_cons hlt,List.take_append_drop]
  rw[List.eraseIdx_eq_take_drop_succ]
  conv=>lhs;rw[e]
  exact List.perm_middle
 have hm:p∈A:=List.mem_of_getElem? hk;have hR:CQ σ ((p.1,p.2)::(root,L)::A.eraseIdx k):=P.roots.perm (((List.Perm.cons _ hp)).trans (List.Perm.swap _ _ _));obtain⟨h1,h2,_,h4,h5⟩:=hR.drop (P.nz p hm);have:=P.tot;have:=P.len;exact⟨h1,h2,fun q hq=>P.nz q (List.mem_of_mem_eraseIdx hq),by rw[List.length_eraseIdx_of_lt hlt];omega,by omega,by rw[h5];exact P.room⟩
theorem O6 (h:ScAt w0 w c s b σ σ root (Aq A) G) (P:Sce σ root L A n i) (x:Bc) (hx:x.Good w0) (hk:x.kind=2) (hn:A = []) :
 Calls Tryz.prog 71 #[.pointer (some ⟨c,0,none⟩),.agg x.cells] w fun e w'=>DM w0 w' c s b n i G e:=by
 unfold DM;have q0:=Bc.Ar (x:=x);have a0:AN w (w.alloc (.cells x.cells 146)):=(Ch.refl (fun _=>False) w).alloc _;obtain⟨X,hX⟩:∃X,X=x.cells:=⟨_,rfl⟩
 rw[hk, ←hX] at q0;rw[←hX] at a0;rw[←hX];obtain⟨aa,ac,hr,_⟩:=h.row;rw[C8,hn] at hr;have HS:=(hIq (h.adds a0) P)
 have hra:=AQ hr (.cells X 146);have ck:=AH (heap_alloc_new w (.cells X 146)) q0;have c3:(w.alloc (.cells X 146)).cell? ⟨c,3,none⟩=some (.slice aa 0 ac):=AH hra (i:=3) rfl;clear h P q0 hX hk hx a0 hr hra hn;go_enter Tryz.func71,Tryz.ntmps71;go_wp2;go_ret;exact⟨rfl,_,_,_,_,HS.out.1,HS.out.2.next⟩
theorem Ri:(Tryz.prog.info? (Tryz.prog.elem 61)).map (·.size)=some 1:=by kernel_rfl
theorem PL (g n c k:Nat) (hk:k≤c) (w1:World):(Instr.sliceAt 61 (.slice (some ⟨g,0,none⟩) n c) none (some (.int .i64 (k:Int))) none).run Tryz.prog w1=.ok (.slice (some ⟨g,0,none⟩) k c) w1:=by
 have ht:Tryz.prog.underlying 61=some (.slice (Tryz.prog.elem 61)):=by kernel_rfl
 rw[run_sliceAt_slice w1 _ _ _ _ _ ht,run_slice_h w1 _ (some ⟨g,0,none⟩) n c ht .i64 (k:Int) (by omega) (by omega)];obtain⟨z,hz⟩:∃z,(sizeOf (Tryz.prog.elem 61)).run Tryz.prog w1=.ok z w1:=⟨1,by kernel_rfl⟩
 have e:(Value.slice (if c=0 then some ⟨g,0,none⟩ else (some ⟨g,0,none⟩:Option Addr).map (·.add (0*z))) (k-0) (c-0))=.slice (some ⟨g,0,none⟩) k c:=by
  rw[Nat.zero_mul,Nat.sub_zero,Nat.sub_zero]
  congr 1
  split<;>rfl
 simp only[hz,sliced,Int.toNat_natCast,e,Result.andThen_ok]
theorem Rq {wz:World} {g m j:Nat} {cur:Array Value} {t:TypeId} {fr:Nat×Nat} {xs:List Value} {u:Value} (hg:wz.heap[g]?=some (.cells cur t fr)) (hc:cur.toList.take m=xs) (hx:xs[j]?=some u):wz.cell? ⟨g,j,none⟩=some u:=by
 have hj:=(List.getElem?_eq_some_iff.1 hx).1;have hjm:j<m:=by rw[←hc,List.length_take] at hj;omega
 have h1:cur[j]?=some u:=by
  rw[←hc,List.getElem?_take_of_lt hjm] at hx;rw[←Array.getElem?_toList];exact hx
 exact AH hg h1
theorem TH (l:List Int):∀u∈hl l,u.oneCell'=true:=fun u hu=>by
 unfold Store.hl at hu;obtain⟨x,_,rfl⟩:=List.mem_map.1 hu;rfl
theorem My (h:ScAt w0 w c s b σ σ root (Aq A) G) (P:Sce σ root L A n i) (x:Bc) (hx:x.Good w0) (hk:x.kind=2) (hne:A ≠ []) :
 Calls Tryz.prog 71 #[.pointer (some ⟨c,0,none⟩),.agg x.cells] w fun e w'=>DM w0 w' c s b n i G e:=by
 unfold DM;have q0:=Bc.Ar (x:=x);have qh:=Bc.VZ hx.key;have hpos:0<A.length:=List.length_pos_iff.2 hne;have h9:=P.len;obtain⟨m,hm⟩:∃m,m=A.length:=⟨_,rfl⟩
 rw[←hm] at hpos h9;have hpk:=fun w1=>Ry x.h m hpos (by omega) w1
 obtain⟨p1,p2⟩:=T0 x.h hpos;obtain⟨k,hkk⟩:∃k:Nat,pick x.h m=(k:Int):=⟨(pick x.h m).toNat,by omega⟩
 rw[hkk] at hpk p2;have hkm:k<m:=by omega
 obtain⟨⟨hd,Ld⟩,hak⟩:∃p,A[k]?=some p:=⟨_,List.getElem?_eq_getElem (by rw[←hm];exact hkm)⟩
 obtain⟨d0,PD⟩:=P.drop hak;have a0:AN w (w.alloc (.cells x.cells 146)):=(Ch.refl (fun _=>False) w).alloc _;obtain⟨X,hX⟩:∃X,X=x.cells:=⟨_,rfl⟩
 obtain⟨xh,hxh⟩:∃xh,xh=x.h:=⟨_,rfl⟩
 rw[hk, ←hX] at q0;rw[←hX, ←hxh] at qh;rw[←hxh] at hpk;rw[←hX] at a0;rw[←hX];obtain⟨aa,ac,hr,hown⟩:=(h.adds a0).row;rw[C8, ←hm] at hr hown;obtain⟨g,cap,cur,he,hg,hc1,hc2,hc3,hc4⟩:=Bq hown hpos;injection he with e1 e2 e3;subst e1 e3;obtain⟨i0,hi0,hz0,hz1,hz2⟩:=SlabN.DZ;have hlk:(Aq A)[k]?=some hd:=by unfold Aq;rw[List.getElem?_map,hak];rfl
 have hck:cur[k]?=some (.int .i64 hd):=by
  have h1:(cur.toList.take (m*1))[k]?=some (.int .i64 hd):=by
   rw[hc4];unfold Store.hl;rw[List.getElem?_map,hlk];rfl
  rw[List.getElem?_take_of_lt (by omega)] at h1;rw[←Array.getElem?_toList];exact h1
 have HI:=(hIq hi0 (aIq hz0 (aIq hz1 hz2)))
 have HS:=(hIq (h.adds a0) (aIq P.roots.good (aIq PD d0)))
 have HR:=(hIq hr (aIq hg (aIq hown (aIq (aIq hc1 (aIq hc2 hc3)) hc4))))
 have HPK:=Lib.hid hpk;have HX:=(hIq (heap_alloc_new w (.cells X 146)) qh)
 have HM:=Lib.hid hm;have H9:=Lib.hid h9;have ck:=AH (heap_alloc_new w (.cells X 146)) q0;have c3:=AH hr (i:=3) rfl;have cg:=AH hg hck;have hm0:((m:Int) == 0)=false:=by simpa using (show ¬(m:Int)=0 by omega)
 have hm1:¬(m:Int)=0:=by omega
 have hkz:(k:Int)<(m:Int):=by omega
 have hk9:(k:Int)≤9:=by omega
 obtain⟨w1,hw1⟩:∃w1,w1=w.alloc (.cells X 146):=⟨_,rfl⟩
 rw[←hw1] at HS HR HX;have HCK:=Lib.hid hck;clear h P q0 qh hX hk hx a0 hr hm PD d0 hown hi0 hz0 hz1 hz2 hne hpos h9 hpk p1 p2 hkk hxh hg hc1 hc2 hc3 hc4 hlk hck hak;go_enter Tryz.func71,Tryz.ntmps71;go_upto_region 15 with fail;refine DQ (fun w2 hw2=>?_);have e12:w2=w1:=by rw[hw2,hw1]
 subst e12;clear hw1 hw2 ck c3 cg;refine AP (fun wz=>(∃ra,wz.heap[c]?=some (.cells #[.pointer (some ⟨s,0,none⟩),.pointer (some ⟨b,0,none⟩),ra,.slice (some ⟨g,0,none⟩) m ac] 63 (0,0)))∧wz.heap[w.heap.size]?=some (.cells X 146 (0,0))) 8 [(0,false),(1,false),(2,false),(3,false),(4,false),(5,false),(6,false),(7,true)] (by kernel_rfl) (by kernel_rfl) ?_ ?_
 · exact⟨⟨_,AM HR.out.1⟩,AM HX.out.1⟩
 refine plan_look rfl rfl (fun w0 hS=>(by clear hS;go_simp;try rfl)) ?_;simp only[Act.put,nAq,nBq,nCq];refine plan_look (v:=.int .i64 xh) rfl rfl (fun w0 hS=>(by have c1:=AH hS.2 HX.out.2;clear hS;go_simp;try rfl)) ?_;simp only[Act.put,nAq,nBq,nCq]
 iterate 3
  refine plan_look rfl rfl (fun w0 hS=>(by clear hS;go_simp;try rfl)) ?_;simp only[Act.put,nAq,nBq,nCq]
 refine plan_look (v:=.slice (some ⟨g,0,none⟩) m ac) rfl rfl (fun w0 hS=>(by obtain⟨⟨va,hva⟩,_⟩:=hS;have c1:=AH hva (i:=3) rfl;clear hva;go_simp;try rfl)) ?_;simp only[Act.put,nAq,nBq,nCq];refine plan_look rfl rfl (fun w0 hS=>(by clear hS;go_simp;try rfl)) ?_;simp only[Act.put,nAq,nBq,nCq];refine AW rfl ?_;go_wp2_with fail;refine(HPK.out _).mono ?_;rintro e w3 ⟨rfl,hw3⟩;subst hw3;dsimp only;go_step;refine wpList_nil ?_;change _∧_;refine⟨⟨⟨_,AM HR.out.1⟩,AM HX.out.1⟩,?_⟩;refine AZ ?_;simp only[List.drop_succ_cons,List.drop_zero];go_wp2;refine NoPanic.normal ?_;have c3:=AH (AM HR.out.1) (i:=3) rfl;have cg:=AH (AM HR.out.2.1) HCK.out;go_upto_region 17 with fail;clear c3 cg;have hc4:=HR.out.2.2.2.2;rw[Nat.mul_one] at hc4;have hml:(hl (Aq A)).length=m:=by rw[Store.LQ,C8,HM.out]
 have hca:=HR.out.2.2.2.1.1
 have had:∃ad:Addr,adv (some ⟨g,0,none⟩) ac (k+1)=some ad∧∀(wz:World),wz.heap[g]?=some (.cells cur 3 (0,0))→∀j u,((hl (Aq A)).drop (k+1))[j]?=some u→wz.cell? (ad.add j)=some u:=by
  unfold adv;by_cases e:ac=k+1
  · rw[if_pos e]
    refine⟨_,rfl,fun wz _ j u hu=>?_⟩;rw[List.drop_of_length_le (by omega)] at hu;cases hu
  rw[if_neg e];refine⟨_,rfl,fun wz hg j u hu=>?_⟩;rw[List.getElem?_drop] at hu;have:=Rq hg hc4 hu;simpa[add_plain] using this
 obtain⟨ad,had,hadc⟩:=had;have HAD:=Lib.hid hadc
 have hTA:∀(wz:World),wz.heap[g]?=some (.cells cur 3 (0,0))→∀j u,((hl (Aq A)).take k)[j]?=some u→wz.cell? ((⟨g,0,none⟩:Addr).add j)=some u:=fun wz hg j u hu=>by
  have hj:=(List.getElem?_eq_some_iff.1 hu).1;rw[List.length_take] at hj;rw[List.getElem?_take_of_lt (by omega)] at hu;have:=Rq hg hc4 hu;simpa[add_plain] using this
 have HTA:=Lib.hid hTA;have hln:((hl (Aq A)).take k).length=k∧((hl (Aq A)).drop (k+1)).length=m-(k+1):=⟨by rw[List.length_take];omega,by rw[List.length_drop,hml]⟩
 have HLN:=Lib.hid hln;have hws:IntKind.i64.wrap ((k:Int)+1)=(k:Int)+1:=IntWalk.i64_in _ (by omega);have hs1:=fun w1=>PL g m ac k (by omega) w1
 have hs2:=fun w1=>Gp (P:=Tryz.prog) w1 61 (by kernel_rfl) Ri (some ⟨g,0,none⟩) m ac (k+1) .i64 (by omega)
 rw[had] at hs2;have HS1:=Lib.hid hs1;have HS2:=Lib.hid hs2;have hmac:m≤9∧ac≤maxLen:=⟨H9.out,HR.out.2.2.2.1.2.1⟩
 have HMA:=Lib.hid hmac;clear hc4 hml hadc had hTA hln hs1 hs2 hmac;refine AP (fun wz=>∃ra,wz.heap[c]?=some (.cells #[.pointer (some ⟨s,0,none⟩),.pointer (some ⟨b,0,none⟩),ra,.slice (some ⟨g,0,none⟩) m ac] 63 (0,0))) 17 [(0,false),(2,false),(3,false),(4,false),(5,false),(6,false),(7,false),(9,false),(10,false),(11,false),(12,false),(13,false),(14,false),(15,false),(1,true),(8,true),(16,true)] (by kernel_rfl) (by kernel_rfl) ?_ ?_
 · exact⟨_,AM (AM HR.out.1)⟩
 iterate 4
  refine plan_look rfl rfl (fun w0 hS=>(by clear hS;go_simp;try rfl)) ?_;simp only[Act.put,nAq,nBq,nCq]
 refine plan_look (v:=.slice (some ⟨g,0,none⟩) m ac) rfl rfl (fun w0 hS=>(by obtain⟨va,hva⟩:=hS;have c1:=AH hva (i:=3) rfl;clear hva;go_simp;try rfl)) ?_;simp only[Act.put,nAq,nBq,nCq];refine plan_look rfl rfl (fun w0 hS=>(by clear hS;go_simp;try rfl)) ?_;simp only[Act.put,nAq,nBq,nCq];refine plan_look (v:=.slice (some ⟨g,0,none⟩) k ac) rfl rfl (fun w0 hS=>(by have q:=HS1.out w0;clear hS;go_simp;try rfl)) ?_;simp only[Act.put,nAq,nBq,nCq]
 iterate 3
  refine plan_look rfl rfl (fun w0 hS=>(by clear hS;go_simp;try rfl)) ?_;simp only[Act.put,nAq,nBq,nCq]
 refine plan_look (v:=.slice (some ⟨g,0,none⟩) m ac) rfl rfl (fun w0 hS=>(by obtain⟨va,hva⟩:=hS;have c1:=AH hva (i:=3) rfl;clear hva;go_simp;try rfl)) ?_;simp only[Act.put,nAq,nBq,nCq];refine plan_look rfl rfl (fun w0 hS=>(by clear hS;go_simp;try rfl)) ?_;simp only[Act.put,nAq,nBq,nCq];refine plan_look (v:=.int .i64 ((k:Int)+1)) rfl rfl (fun w0 hS=>(by clear hS;go_simp;try rfl)) ?_;simp only[Act.put,nAq,nBq,nCq];refine plan_look (v:=.slice (some ad) (m-(k+1)) (ac-(k+1))) rfl rfl (fun w0 hS=>(by have q:=HS2.out w0;push_cast at q;clear hS;go_simp;try rfl)) ?_;simp only[Act.put,nAq,nBq,nCq];refine AW rfl ?_;refine DY rfl 61 rfl 3 i0 Tryz.underlying61 HI.out.1 ?_;refine wpList_nil ?_;change _∧_;have r4:=AQ (AM (AM HR.out.1)) (.cells #[] 3);have g4:=AQ (AM (AM HR.out.2.1)) (.cells #[] 3);have b4:(w2.drew.drew.alloc (.cells #[] 3)).heap[w2.heap.size]?=some (.cells #[] 3 (0,0)):=heap_alloc_new w2.drew.drew (.cells #[] 3);have a4:AN w2 (w2.drew.drew.alloc (.cells #[] 3)):=((Ch.refl _ w2).drew.drew).alloc _;refine⟨⟨_,r4⟩,?_⟩;obtain⟨w4,hw4⟩:∃w4,w4=w2.drew.drew.alloc (.cells #[] 3):=⟨_,rfl⟩
 rw[←hw4] at r4 g4 b4 a4;rw[←hw4];have H4:=(hIq r4 (aIq g4 (aIq b4 a4)))
 clear r4 g4 b4 a4 hw4;simp only[Act.put,nAq,nBq,nCq];refine AW rfl ?_;refine BI rfl (.tmp 107) (.tmp 113) 61 rfl 3 i0 (.int .i64 0) 1 8 Tryz.underlying61 HI.out.1 HI.out.2.1 HI.out.2.2.1 HI.out.2.2.2 rfl (by decide) (.slice (some ⟨w2.heap.size,0,none⟩) 0 0) 0 [] rfl (B4 H4.out.2.2.1 (Nat.le_refl 0) (Nat.zero_le _) rfl rfl) ⟨g,0,none⟩ k ac ((hl (Aq A)).take k) rfl (by rw[Nat.mul_one];exact HLN.out.1) (HTA.out w4 H4.out.2.1) (fun u hu=>TH _ u (List.mem_of_mem_take hu)) (by have:=HMA.out.1;unfold maxLen;omega) (by have:=HMA.out.1;omega) ?_;intro v5 w5 own5 grow5 ob5;have hs4:=H4.out.2.2.2.size;have g5:w5.heap[g]?=some (.cells cur 3 (0,0)):=(((Ch.refl (fun j=>j=w2.heap.size) w4)).grown grow5 (fun j hj=>.inl (by cases hj;rfl))).row H4.out.2.1 (fun e=>by have:=Ad HR.out.2.1;omega);have r5:=(((Ch.refl (fun j=>j=w2.heap.size) w4)).grown grow5 (fun j hj=>.inl (by cases hj;rfl))).row H4.out.1 (fun e=>by have:=Ad HR.out.1;omega);have a5:AN w2 w5:=H4.out.2.2.2.grown grow5 (fun j hj=>.inr (by cases hj;exact Nat.le_refl _))
 have ob5':∀j,v5.ownBlock=some j→w2.heap.size≤j:=fun j hj=>by
  rcases ob5 with e|e
  · rw[e] at hj;cases hj;exact Nat.le_refl _
  exact Nat.le_trans hs4 (e j hj)
 obtain⟨o5,c5,rfl⟩:=Am own5;rw[Nat.zero_add,List.nil_append] at own5;have H5:=(hIq r5 (aIq g5 (aIq a5 (aIq own5 ob5'))))
 clear grow5 ob5 hs4 g5 r5 a5 own5 ob5';refine wpList_nil ?_;change _∧_;refine⟨⟨_,H5.out.1⟩,?_⟩;simp only[Act.put,nAq,nBq,nCq];refine AW rfl ?_;refine BI rfl (.tmp 114) (.tmp 121) 61 rfl 3 i0 (.int .i64 0) 1 8 Tryz.underlying61 HI.out.1 HI.out.2.1 HI.out.2.2.1 HI.out.2.2.2 rfl (by decide) (.slice o5 (0+k) c5) (0+k) ((hl (Aq A)).take k) rfl (by rw[Nat.zero_add];rw[Nat.zero_add] at H5;exact H5.out.2.2.2.1) ad (m-(k+1)) (ac-(k+1)) ((hl (Aq A)).drop (k+1)) rfl (by rw[Nat.mul_one];exact HLN.out.2) (HAD.out w5 H5.out.2.1) (fun u hu=>TH _ u (List.mem_of_mem_drop hu)) (by have:=HMA.out.1;unfold maxLen;omega) (by have:=HMA.out.1;omega) ?_;intro v6 w6 own6 grow6 ob6;obtain⟨o6,c6,rfl⟩:=Am own6;have a6:AN w2 w6:=H5.out.2.2.1.grown grow6 (fun j hj=>.inr (H5.out.2.2.2.2 j hj));have r6:=a6.row HR.out.1 id
 have S6:ScAt w0 (w6.setCell ⟨c,3,none⟩ (.slice o6 (0+k+(m-(k+1))) c6)) c s b σ σ root (Aq (A.eraseIdx k)) G:=by
  refine HS.out.1.Nv HR.out.1 (a6.mono (fun _ _ h=>h.elim)) ?_ (.inr (fun j hj=>?_))
  · have e1:hl (Aq (A.eraseIdx k))=(hl (Aq A)).take k++(hl (Aq A)).drop (k+1):=by
     rw[List.eraseIdx_eq_take_drop_succ];simp[Aq,Store.hl,List.map_take,List.map_drop]
    have e2:(Aq (A.eraseIdx k)).length=0+k+(m-(k+1)):=by
     have:=congrArg List.length e1;rw[Store.LQ,List.length_append,HLN.out.1,HLN.out.2] at this;omega
    rw[e1,e2];exact own6
  rcases ob6 with e|e
  · rw[e] at hj;exact H5.out.2.2.2.2 j hj
  exact Nat.le_trans H5.out.2.2.1.size (e j hj)
 have H6:=Lib.hid S6;have c3:=AH r6 (i:=3) rfl;have f3:=Ai r6 3;have l6:=Ad r6;refine wpList_nil ?_;change _∧_;refine⟨⟨_,r6⟩,?_⟩;clear own6 grow6 ob6 a6 r6 S6;refine AZ ?_;simp only[List.drop_succ_cons,List.drop_zero,Act.put,List.setIfInBounds_toArray,List.set_cons_succ,List.set_cons_zero];go_wp2;refine NoPanic.normal ?_;obtain⟨w7,hw7⟩:∃w7,w7=w6.setCell ⟨c,3,none⟩ (.slice o6 (k+(m-(k+1))) c6):=⟨_,rfl⟩
 rw[←hw7]
 have S7:ScAt w0 w7 c s b σ σ root (Aq (A.eraseIdx k)) G:=by
  have:=H6.out;rw[Nat.zero_add] at this;rw[hw7];exact this
 obtain⟨aa7,ac7,r7,_⟩:=S7.row
 have hD1:∀w8,ScAt w0 w8 c s b σ σ root (Aq (A.eraseIdx k)) G→Calls Tryz.prog 31 #[.pointer (some ⟨s,0,none⟩),.int .i64 hd] w8 fun e w'=>∃σ',(e=.returned (.tuple #[.int .i64 (Aw σ hd).1,.int .i64 0])∧σ'=(Aw σ hd).2.2)∧ScAt w0 w' c s b σ' σ root (Aq (A.eraseIdx k)) G∧But G w8 w':=fun w8 S8=>by
  refine ScAt.impl (P:=fun e σ'=>e=.returned (.tuple #[.int .i64 (Aw σ hd).1,.int .i64 0])∧σ'=(Aw σ hd).2.2) S8 (fun G' o=>?_);have:=o.drop hd;rw[HS.out.2.2.2] at this;exact this.mono fun e w' ⟨he,ho,hB⟩=>⟨_,⟨he,rfl⟩,ho,hB⟩
 have hD2:∀w8 σ',ScAt w0 w8 c s b σ' σ root (Aq (A.eraseIdx k)) G→Calls Tryz.prog 156 #[.pointer (some ⟨b,0,none⟩),.int .i64 hd] w8 fun e w'=>∃τ',(e=.returned (.tuple #[.int .i64 (Aw σ hd).1,.int .i64 0])∧τ'=(Aw σ hd).2.2)∧ScAt w0 w' c s b σ' τ' root (Aq (A.eraseIdx k)) G∧But G w8 w':=fun w8 σ' S8=>by
  refine ScAt.Va (P:=fun e τ'=>e=.returned (.tuple #[.int .i64 (Aw σ hd).1,.int .i64 0])∧τ'=(Aw σ hd).2.2) S8 (fun G' o=>?_);have:=o.drop HS.out.2.1 hd;rw[HS.out.2.2.2] at this;exact this.mono fun e w' ⟨he,ho,hB⟩=>⟨_,⟨he,rfl⟩,ho,hB⟩
 obtain⟨fr,hfr⟩:∃fr,fr=(Aw σ hd).1:=⟨_,rfl⟩
 rw[←hfr] at hD1 hD2;have HD1:=Lib.hid (hD1 _ S7);have HD2:=Lib.hid hD2;have c0:=AH r7 (i:=0) rfl;clear hw7 S7 r7 hD1 hD2 hfr c3 f3 l6 H6;go_wp2_with fail;refine HD1.out.mono ?_;rintro e w8 ⟨σ',⟨rfl,hs'⟩,S8,_⟩;obtain⟨aa8,ac8,r8,_⟩:=S8.row;have H8:=(hIq S8 hs')
 have c1:=AH r8 (i:=1) rfl;clear S8 r8 hs' c0;go_wp2_with fail;refine(HD2.out _ _ H8.out.1).mono ?_;rintro e w9 ⟨τ',⟨rfl,ht'⟩,S9,_⟩;have H9':=(hIq S9 ht')
 clear S9 ht' c1;go_wp2;go_ret;refine⟨rfl,(Aw σ hd).2.2,root,L,A.eraseIdx k,?_,HS.out.2.2.1⟩;have:=H9'.out.1;rw[H9'.out.2,H8.out.2] at this;exact this
end
end Go.Proofs.YtngbdbpofifimaaGreat.Store
namespace Go.Proofs.YtngbdbpofifimaaGreat.Bk
open Go.RowKit Go.Proofs.YtngbdbpofifimaaGreat.ShaW Go.Proofs.YtngbdbpofifimaaGreat.Path Go.Proofs.YtngbdbpofifimaaGreat.Store Go.Deep Go.ChangeShapes Go.WideShapes Go.ChangeAt
def Gv (w:World) (ao:Option Addr) (len:Nat):Prop:=∀i,i<len→∃(g off:Nat) (x:Bc),ao=some ⟨g,off,none⟩∧x.Good w∧D9 w g (off+i*35) x.cells
theorem Gv.Ae {F:Nat→Prop} {w w':World} {ao:Option Addr} {len:Nat} (h:Gv w ao len) (hc:Ch F w w') (hF:∀k,F k→w.heap.size≤k):Gv w' ao len:=fun i hi=>by
 obtain⟨g,off,x,h1,h2,h3⟩:=h i hi;refine⟨g,off,x,h1,h2.Ae hc hF,h3.Ae hc (fun hf=>?_)⟩;obtain⟨cur,t,fr,hr,_⟩:=h3;have:=Ad hr;have:=hF g hf;omega
section
variable {H : Type} {enc : TypeId×Value→H} {W : World} {base : Nat}
theorem JA:Tryz.prog.cellsOf 146=35:=by kernel_rfl
theorem NT {v:Value} {d:DataW H} {p:List MemPlace} (hv:Value.okWide Tryz.prog W .any base 46 v)
 (h:DataW.Trod enc Tryz.prog W 0 (fun _=>true) true 46 v d p):∃ao len cap,v=.slice ao len cap∧Gv W ao len:=by
 obtain⟨ao,len,cap,rfl⟩:=okWide_slice Tryz.underlying46 hv;obtain⟨m,hm⟩:=h;rcases open_slice Tryz.underlying46 hm with⟨h0,_⟩|⟨a,l,c,mm,n,D,Pl,hcs,hb,hl,hc,hmm,hx,hi⟩
 · simp only[Value.cells,List.cons.injEq,Value.slice.injEq,and_true] at h0
   obtain⟨rfl,rfl,rfl⟩:=h0;exact⟨_,_,_,rfl,fun i hi=>absurd hi (Nat.not_lt_zero i)⟩
 simp only[Value.cells,List.cons.injEq,Value.slice.injEq,and_true] at hcs;obtain⟨rfl,rfl,rfl⟩:=hcs;refine⟨_,_,_,rfl,fun i hil=>?_⟩;obtain⟨cs',h1,h2⟩:=hi i (by rw[hmm];simp only[if_true];exact Nat.lt_of_lt_of_le hil hl);rw[JA] at h1;obtain⟨x,hg,rfl⟩:=Mi h2;obtain⟨_,hlen,h3⟩:=World.cells?_some h1;obtain⟨g,off,spot⟩:=a;cases spot with
 | none =>
  refine⟨g,off,x,rfl,hg,?_⟩;have:=D9.Rn (w:=W) (g:=g) (o:=off+i*35) (m:=35) (cs:=x.cells.toList) (by omega) hlen (fun j hj=>by have:=h3 j hj;simpa only[add_plain] using this);exact this
 | some s =>
  exfalso;obtain⟨cs',h1,h2⟩:=hi 0 (by rw[hmm];simp only[if_true];exact Nat.lt_of_lt_of_le (Nat.lt_of_le_of_lt (Nat.zero_le _) hil) hl);rw[JA] at h1;obtain⟨x,hg,rfl⟩:=Mi h2;obtain⟨_,_,h3⟩:=World.cells?_some h1;have k0:=h3 0 (by omega);rw[LJ _ _ (by simp[Addr.add])] at k0;cases k0
end
end Go.Proofs.YtngbdbpofifimaaGreat.Bk
namespace Go.Proofs.YtngbdbpofifimaaGreat
open Go.RowKit Go.ChangeShapes Go.WideShapes Go.ChangeAt
def Pn (W:World) (v:Value):Prop:=∃ao len cap,v=.slice ao len cap∧Bk.Gv W ao len
theorem SB {H:Type} {enc:TypeId×Value→H} {W:World} {base:Nat} {v:Value} {d:DataW H} {p:List MemPlace} (hv:Value.okWide Tryz.prog W .any base 46 v)
 (h:DataW.Trod enc Tryz.prog W 0 (fun _=>true) true 46 v d p):Pn W v:=Bk.NT hv h
def XR (W:World) (v:Value):Prop:=∃x:Bk.Bc,x.Good W∧v=.agg x.cells
end Go.Proofs.YtngbdbpofifimaaGreat
namespace Go.Proofs.YtngbdbpofifimaaGreat.Store
open Go.RowKit Go.Proofs.YtngbdbpofifimaaGreat.ShaW Go.Proofs.YtngbdbpofifimaaGreat.Path Go.Proofs.YtngbdbpofifimaaGreat.Bk
section
variable {w0 w w' : World} {c s b n i : Nat} {σ : AG Nd} {root : Int} {L : Av} {A : List (Int×Av)} {G : Nat→Prop}
theorem Ws (h:ScAt w0 w c s b σ σ root (Aq A) G) (P:Sce σ root L A n i) (hi:i≤16) (x:Bc) (hx:x.Good w0) (hlen:x.val.length≤2000) :
 Calls Tryz.prog 71 #[.pointer (some ⟨c,0,none⟩),.agg x.cells] w fun e w'=>DM w0 w' c s b n i G e:=by
 by_cases k0:x.kind=0
 · exact Vz h P hi x hx hlen k0
 by_cases k1:x.kind=1
 · by_cases hn:root=0∨8<A.length
   · exact OM h P x hx k1 hn
   exact Np h P hi x hx k1 (fun e=>hn (.inl e)) (by omega)
 by_cases k2:x.kind=2
 · by_cases hn:A = []
   · exact O6 h P x hx k2 hn
   exact My h P x hx k2 hn
 by_cases k4:x.kind=4
 · exact Uy h P x hx k4
 by_cases k5:x.kind=5
 · exact Uw h P x hx k5
 by_cases k6:x.kind=6
 · exact Vx h P x hx k6
 exact Tp h P x hx ⟨k0,k1,k2,k4,k5,k6⟩
theorem Sce.new (h1:1≤n) (h2:n≤65536):Sce ⟨n,[],[]⟩ 0 [] [] n 0 :=
 ⟨(CQ.new n h1 h2).zero,fun p hp=>(by cases hp),Nat.zero_le _,Nat.le_refl _,rfl⟩
def OG (w w':World) (n:Nat) (e:Ending):Prop:=∃(c s b:Nat),e=.returned (.tuple #[.pointer (some ⟨c,0,none⟩),.bool true])∧ScAt w w' c s b ⟨n,[],[]⟩ ⟨n,[],[]⟩ 0 [] (fun k=>k<w.heap.size)
theorem VF (n:Nat) (h1:1≤n) (h2:n≤65536) (w:World):Calls Tryz.prog 70 #[.int .i64 (n:Int)] w fun e w'=>OG w w' n e:=by
 unfold OG;have hn1:=fun w1=>Km n w1 h1 h2
 have hn2:=fun w1=>U8 (n:Int) w1 (by omega) (by omega)
 have HN1:=Lib.hid hn1;have HN2:=Lib.hid hn2;clear hn1 hn2;go_enter Tryz.func70,Tryz.ntmps70;go_wp2_with fail;refine(HN1.out _).mono ?_;rintro e w1 ⟨s,F1,rfl,hA,hF1,a1⟩;have H1:=(hIq hA (aIq hF1 a1))
 clear hA hF1 a1;go_wp2_with fail;refine(HN2.out _).mono ?_;rintro e w2 ⟨b,F2,rfl,hR,hF2,a2⟩;rw[Int.toNat_natCast] at hR;have H2:=(hIq hR (aIq hF2 a2))
 clear hR hF2 a2;go_wp2_with fail;go_ret2;refine⟨w2.heap.size,s,b,rfl,⟨n,[],[]⟩,F1,F2,.slice none 0 0,?_⟩;have l1:=At.lt H1.out.1;have l2:=RAt.lt H2.out.1;have z1:=H1.out.2.2.size;have z2:=H2.out.2.2.size;have a3:=(Ch.refl (fun _=>False) w2).alloc (.cells #[.pointer (some ⟨s,0,none⟩),.pointer (some ⟨b,0,none⟩),.int .i64 0,.slice none 0 0] 63);refine⟨(H1.out.1.adds H2.out.2.2).adds a3,H2.out.1.adds a3,Lk.new n,heap_alloc_new _ _,World.ownsRow_nil _ _ _ _,fun k hk=>H1.out.2.1 k hk,fun k hk=>⟨by have:=H2.out.2.1 k hk;omega,fun hf=>by have:=H2.out.2.1 k hk;have:=l1 k hf;omega⟩,⟨by omega,fun hf=>by have:=l1 _ hf;omega,fun hf=>by have:=l2 _ hf;omega⟩,fun k hk=>(by cases hk),((H1.out.2.2.trans H2.out.2.2 (fun _=>fEq)).trans a3 (fun _=>fEq)),fun k hk=>⟨fun hf=>by have:=H1.out.2.1 k hf;omega,fun hf=>by have:=H2.out.2.1 k hf;omega,by omega,fun hf=>(by cases hf),by simp;omega⟩⟩
end
end Go.Proofs.YtngbdbpofifimaaGreat.Store
