/- Laws of the layers below. -/
import Derived.Test.YtngbdbpofifimaaGreatQm35
set_option maxHeartbeats 3200000
set_option maxRecDepth 100000
set_option linter.unusedVariables false
namespace Go.Proofs.YtngbdbpofifimaaGreat.Store
open Go.RowKit Go.Proofs.YtngbdbpofifimaaGreat.ShaW Go.Proofs.YtngbdbpofifimaaGreat.Path Go.Proofs.YtngbdbpofifimaaGreat.Bk
section
variable {w0 w w' : World} {c s b : Nat} {σ σ' τ τ' : AG Nd} {root : Int} {aside : List Int} {G : Nat→Prop}
theorem ScAt.Wp (h:ScAt w0 w c s b σ τ root aside G) {C:Nat→Prop} (hc:Ch C w w') (hC:∀k,C k→G k∧w0.heap.size≤k):ScAt w0 w' c s b σ τ root aside G:=by
 obtain⟨ρ,F1,F2,vA,h1,h2,h3,h4,h5,h6,h7,h8,h9,h10,h11⟩:=h
 have hd:∀k,C k→¬F1 k∧¬F2 k∧k≠c∧vA.ownBlock≠some k:=fun k hk=>by
  obtain⟨q1,q2,q3,q4,_⟩:=h11 k (hC k hk).1;exact⟨q1,q2,q3,q4⟩
 refine⟨ρ,F1,F2,vA,h1.Ae hc (fun k hk e=>(hd k e).1 hk),h2.Ae hc (fun k hk e=>(hd k e).2.1 hk),h3,hc.row h4 (fun e=>(hd c e).2.2.1 rfl),hc.owns h5 (fun k hk e=>(hd k e).2.2.2 hk),h6,h7,h8,h9,h10.trans hc (fun k hk=>.inr (hC k hk).2),fun k hk=>?_⟩;obtain⟨q1,q2,q3,q4,q5⟩:=h11 k hk;exact⟨q1,q2,q3,q4,Nat.lt_of_lt_of_le q5 hc.size⟩
theorem Ht:(Tryz.prog.info? 146).map (·.size)=some 35:=by kernel_rfl
theorem Ki (h:ScAt w0 w c s b σ σ root aside G) (GG:Good σ) (r:Int) (x:Bc) (hx:x.Good w) :
 Calls Tryz.prog 157 #[.pointer (some ⟨c,0,none⟩),.int .i64 r,.agg x.cells] w fun e w'=>e=.returned (.bool true)∧AN w w':=by
 obtain⟨kind,key,vv,val,hh⟩:=x;obtain⟨hk,hb,_⟩:=hx;simp only at hk hb;have q1:=Bc.Be (x:=⟨kind,key,vv,val,hh⟩) hk;have q2:=Bc.I5 (x:=⟨kind,key,vv,val,hh⟩) hk;have qs:=Bc.size (x:=⟨kind,key,vv,val,hh⟩) hk;obtain⟨X,hX⟩:∃X,X=Bc.cells ⟨kind,key,vv,val,hh⟩:=⟨_,rfl⟩
 rw[←hX] at q1 q2 qs;rw[←hX];simp only at q1 q2;obtain⟨ao,cap,hvv,_⟩:=hb.form;obtain⟨K,hK⟩:∃K,K=AS key:=⟨_,rfl⟩
 rw[←hK] at q1;obtain⟨er,her⟩:∃er,er=DF σ r val:=⟨_,rfl⟩
 have hc1:=fun w1 (a:AN w w1)=>Rm (h.adds a).ow GG r hk (hb.Ae a (fun _ _ h=>h))
 have hc2:=fun w1 (a:AN w w1) (y:Int) (hy:PA σ r key val y)=>Qy (h.adds a).UD GG r hk (hb.Ae a (fun _ _ h=>h)) hy
 rw[←hK, ←her] at hc1 hc2;obtain⟨aa,ac,hr,_⟩:=h.row;have HC1:=Lib.hid hc1;have HC2:=Lib.hid hc2;have HX:=(hIq qs (aIq q1 q2))
 have hr0:=AQ hr (.cells X 146);have hx0:=heap_alloc_new w (.cells X 146);have H0:=(hIq hr0 (aIq hx0 ((Ch.refl (fun _=>False) w).alloc (.cells X 146))))
 clear hc1 hc2 q1 q2 qs hX hK her hr hr0 hx0 hb hk h GG;subst hvv;obtain⟨R,hR⟩:∃R,R=#[Value.pointer (some ⟨s,0,none⟩),.pointer (some ⟨b,0,none⟩),.int .i64 root,.slice aa aside.length ac]:=⟨_,rfl⟩
 have r0:R[0]?=some (.pointer (some ⟨s,0,none⟩)):=by rw[hR];rfl
 have r1:R[1]?=some (.pointer (some ⟨b,0,none⟩)):=by rw[hR];rfl
 rw[←hR] at H0;have HRR:=(hIq r0 r1)
 clear hR r0 r1;go_enter Tryz.func157,Tryz.ntmps157;go_wp2;refine AP (fun wz=>wz.heap[c]?=some (.cells R 63 (0,0))∧wz.heap[w.heap.size]?=some (.cells X 146 (0,0))) 14 [(0,false),(1,false),(2,false),(3,false),(4,false),(5,false),(6,false),(7,false),(8,false),(9,true),(10,false),(11,false),(12,false),(13,false)] (by kernel_rfl) (by kernel_rfl) ?_ ?_
 · exact⟨AM H0.out.1,AM H0.out.2.1⟩
 iterate 3
  refine plan_look rfl rfl (fun w0 hS=>(by clear hS;go_simp;try rfl)) ?_;simp only[Act.put,nAq,nBq,nCq]
 refine plan_look (v:=.pointer (some ⟨s,0,none⟩)) rfl rfl (fun w0 hS=>(by have c1:=AH hS.1 HRR.out.1;clear hS;go_simp;try rfl)) ?_;simp only[Act.put,nAq,nBq,nCq]
 iterate 2
  refine plan_look rfl rfl (fun w0 hS=>(by clear hS;go_simp;try rfl)) ?_;simp only[Act.put,nAq,nBq,nCq]
 refine Aa (cur:=X) (t:=146) (fr:=(0,0)) rfl rfl 47 (.tmp 17) rfl w.heap.size 1 32 rfl (fun w0 hS=>hS.2) Tryz.underlying47 rfl Ab (by rw[HX.out.1];omega) K HX.out.2.1 ?_;simp only[Act.put,nAq,nBq,nCq];refine plan_look rfl rfl (fun w0 hS=>(by clear hS;go_simp;try rfl)) ?_;simp only[Act.put,nAq,nBq,nCq];refine plan_look (v:=.slice ao val.length cap) rfl rfl (fun w0 hS=>(by have c1:=AH hS.2 HX.out.2.2;clear hS;go_simp;try rfl)) ?_;simp only[Act.put,nAq,nBq,nCq];refine AW rfl ?_;go_wp2_with fail;refine(HC1.out _ H0.out.2.2.drew).mono ?_;rintro e w2 ⟨y,rfl,hy,a2⟩;have H2:=(hIq (a2.row (AM H0.out.1) id) (aIq (a2.row (AM H0.out.2.1) id) (aIq (H0.out.2.2.drew.trans a2 (fun _=>fEq)) hy)))
 clear a2 hy;dsimp only;go_step;refine wpList_nil ?_;change _∧_;refine⟨⟨H2.out.1,H2.out.2.1⟩,?_⟩
 iterate 4
  refine plan_look rfl rfl (fun w0 hS=>(by clear hS;go_simp;try rfl)) ?_;simp only[Act.put,nAq,nBq,nCq]
 refine AZ ?_;simp only[List.drop_succ_cons,List.drop_zero];go_wp2;refine NoPanic.normal ?_;go_wp2;refine AP (fun wz=>wz.heap[c]?=some (.cells R 63 (0,0))∧wz.heap[w.heap.size]?=some (.cells X 146 (0,0))) 14 [(0,false),(1,false),(2,false),(3,false),(4,false),(5,false),(6,false),(7,false),(8,false),(9,true),(10,false),(11,false),(12,false),(13,false)] (by kernel_rfl) (by kernel_rfl) ?_ ?_
 · exact⟨AM H2.out.1,AM H2.out.2.1⟩
 iterate 3
  refine plan_look rfl rfl (fun w0 hS=>(by clear hS;go_simp;try rfl)) ?_;simp only[Act.put,nAq,nBq,nCq]
 refine plan_look (v:=.pointer (some ⟨b,0,none⟩)) rfl rfl (fun w0 hS=>(by have c1:=AH hS.1 HRR.out.2;clear hS;go_simp;try rfl)) ?_;simp only[Act.put,nAq,nBq,nCq]
 iterate 2
  refine plan_look rfl rfl (fun w0 hS=>(by clear hS;go_simp;try rfl)) ?_;simp only[Act.put,nAq,nBq,nCq]
 refine Aa (cur:=X) (t:=146) (fr:=(0,0)) rfl rfl 47 (.tmp 30) rfl w.heap.size 1 32 rfl (fun w0 hS=>hS.2) Tryz.underlying47 rfl Ab (by rw[HX.out.1];omega) K HX.out.2.1 ?_;simp only[Act.put,nAq,nBq,nCq];refine plan_look rfl rfl (fun w0 hS=>(by clear hS;go_simp;try rfl)) ?_;simp only[Act.put,nAq,nBq,nCq];refine plan_look (v:=.slice ao val.length cap) rfl rfl (fun w0 hS=>(by have c1:=AH hS.2 HX.out.2.2;clear hS;go_simp;try rfl)) ?_;simp only[Act.put,nAq,nBq,nCq];refine AW rfl ?_;go_wp2_with fail;refine(HC2.out _ H2.out.2.2.1.drew y H2.out.2.2.2).mono ?_;rintro e w3 ⟨rfl,a3⟩;have H3:=(hIq (a3.row (AM H2.out.1) id) (aIq (a3.row (AM H2.out.2.1) id) (H2.out.2.2.1.drew.trans a3 (fun _=>fEq))))
 clear a3;dsimp only;go_step;refine wpList_nil ?_;change _∧_;refine⟨⟨H3.out.1,H3.out.2.1⟩,?_⟩
 iterate 4
  refine plan_look rfl rfl (fun w0 hS=>(by clear hS;go_simp;try rfl)) ?_;simp only[Act.put,nAq,nBq,nCq]
 refine AZ ?_;simp only[List.drop_succ_cons,List.drop_zero];go_wp2;refine NoPanic.normal ?_;go_wp2;go_ret;exact⟨rfl,H3.out.2.2⟩
theorem ScAt.ltG (h:ScAt w0 w c s b σ τ root aside G):∀k,G k→k<w.heap.size:=by
 obtain⟨_,_,_,_,_,_,_,_,_,_,_,_,_,_,h11⟩:=h;exact fun k hk=>(h11 k hk).2.2.2.2
theorem Mg {w:World} {g:Nat} {bs:List UInt8} (h:w.heap[g]?=some (.cells (AS (Gn bs)) 5 (0,0))) (hl:bs.length≤4000):BA w 0 (.slice (some ⟨g,0,none⟩) bs.length (bs.length+5)) bs :=
 .inr ⟨g,_,Gn bs,rfl,Nat.zero_le _,h,I9 bs,List.take_left,by unfold maxLen;omega,by omega⟩
def PC (σ:AG Nd) (r:Int) (x:Bc) (y:Int) (σ1:AG Nd) (e:Ending):Prop:=e=.returned (.tuple #[.int .i64 y,.int .i64 (Bh σ r x.val),.bool true])∧GB σ r x.key x.val y σ1
def PutScene (w0 w:World) (c s b:Nat) (σ:AG Nd) (root:Int) (aside:List Int) (G:Nat→Prop) (r:Int) (x:Bc):Prop :=
 Calls Tryz.prog 154 #[.pointer (some ⟨c,0,none⟩),.int .i64 r,.agg x.cells] w fun e w'=>∃(y:Int) (σ1:AG Nd),PC σ r x y σ1 e∧ScAt w0 w' c s b σ1 σ1 root aside G∧But G w w'
theorem RM (h:ScAt w0 w c s b σ σ root aside G) (GG:Good σ) (r:Int) (x:Bc) (hx:x.Good w0) (hlen:x.val.length≤2000) :
 PutScene w0 w c s b σ root aside G r x:=by
 unfold PutScene PC;obtain⟨kind,key,vv,val,hh⟩:=x;obtain⟨hk,hb,hbk⟩:=hx;simp only at hk hb hbk hlen ⊢;have q1:=Bc.Be (x:=⟨kind,key,vv,val,hh⟩) hk;have q2:=Bc.I5 (x:=⟨kind,key,vv,val,hh⟩) hk;have qs:=Bc.size (x:=⟨kind,key,vv,val,hh⟩) hk;obtain⟨X,hX⟩:∃X,X=Bc.cells ⟨kind,key,vv,val,hh⟩:=⟨_,rfl⟩
 rw[←hX] at q1 q2 qs;rw[←hX];simp only at q1 q2;obtain⟨ao,cap,hvv,_⟩:=hb.form;obtain⟨K,hK⟩:∃K,K=AS key:=⟨_,rfl⟩
 rw[←hK] at q1;obtain⟨er,her⟩:∃er,er=Bh σ r val:=⟨_,rfl⟩
 rw[←her];have hbw:=fun w1 (a:AN w0 w1)=>hb.Ae a (fun _ _ h=>h)
 have hLB:=IM (hbw _ (h.world.trans ((Ch.refl (fun _=>False) w).alloc (.cells X 146)) (fun _=>fEq))) (by omega);have hx0:=heap_alloc_new w (.cells X 146);have a0:AN w (w.alloc (.cells X 146)):=(Ch.refl (fun _=>False) w).alloc _;have hsz0:(w.alloc (.cells X 146)).heap.size=w.heap.size+1:=by simp
 rw[hsz0] at hLB;obtain⟨n,hn⟩:∃n,n=val.length:=⟨_,rfl⟩
 rw[←hn] at hLB hvv;have hg0:w0.heap.size≤w.heap.size:=h.world.size;have HLB:=Lib.hid hLB;have HX:=(hIq qs (aIq q1 q2))
 have H0:=(hIq hx0 (aIq a0 (aIq hsz0 hg0)))
 have HS:=Lib.hid h;have HG:=Lib.hid GG;have HB:=Lib.hid hbw;have HKK:=(hIq hK (aIq hk her))
 have cv:=AH hx0 q2;clear hLB q1 q2 qs hX hK her hx0 a0 hsz0 hg0 hb hbw hbk hk h GG;subst hvv;have HL4:=Lib.hid (by omega:val.length≤4000);have HN:=Lib.hid hn;clear hn hlen;go_enter Tryz.func154,Tryz.ntmps154;go_wp2_with fail;refine HLB.out.mono ?_;rintro e w1 ⟨rfl,rg,a1⟩;have hB1:=a1.row H0.out.1 id;have aw1:AN w w1:=H0.out.2.1.trans a1 (fun _=>fEq);have lg:=Ad rg
 have S1:ScAt w0 w1 c s b σ σ root aside (fun k=>G k∨k=w.heap.size∨k=w.heap.size+1):=HS.out.more aw1 (fun k hk=>by
  rcases hk with hk|rfl|rfl
  · exact .inl hk
  · exact .inr ⟨Nat.le_refl _,by omega⟩
  exact .inr ⟨by omega,by omega⟩)
 have H1:=(hIq S1 (aIq hB1 (aIq rg aw1)))
 have hgg:=HS.out.ltG;have HGG:=Lib.hid hgg;clear hgg;clear cv hB1 aw1 lg S1 rg a1;obtain⟨aa,ac,hr,_⟩:=H1.out.1.row
 have hput:Calls Tryz.prog 60 #[.pointer (some ⟨s,0,none⟩),.int .i64 r,.agg K,.slice (some ⟨w.heap.size+1,0,none⟩) n (n+5)] w1.drew fun e w'=>∃σ',(∃y,e=.returned (.tuple #[.int .i64 y,.int .i64 er])∧GB σ r key val y σ')∧ScAt w0 w' c s b σ' σ root aside (fun k=>G k∨k=w.heap.size∨k=w.heap.size+1)∧But (fun k=>G k∨k=w.heap.size∨k=w.heap.size+1) w1.drew w':=by
  refine ScAt.impl (P:=fun e σ'=>∃y,e=.returned (.tuple #[.int .i64 y,.int .i64 er])∧GB σ r key val y σ') (H1.out.1.adds (Ch.refl _ _).drew) (fun G' o=>?_);have hbr:=(Mg (AM H1.out.2.2.1) HL4.out)
  have:=T9 o HG.out r HKK.out.2.1 hbr.bytes (fun _ k hk=>(hbr.lt k hk).2);rw[←HKK.out.1, ←HKK.out.2.2, ←HN.out] at this;refine this.mono ?_;rintro e w' ⟨y,σ',he,hp,ho,hB⟩;exact⟨σ',⟨y,he,hp⟩,ho,hB⟩
 have HP:=Lib.hid hput;have HR:=(hIq (AM hr) (AM H1.out.2.1))
 clear hput hr;go_wp2;refine AP (fun wz=>(∃va,wz.heap[c]?=some (.cells #[.pointer (some ⟨s,0,none⟩),.pointer (some ⟨b,0,none⟩),.int .i64 root,va] 63 (0,0)))∧wz.heap[w.heap.size]?=some (.cells X 146 (0,0))) 13 [(0,false),(1,false),(2,false),(3,false),(4,false),(5,false),(6,false),(7,false),(8,true),(9,false),(10,false),(11,false),(12,false)] (by kernel_rfl) (by kernel_rfl) ?_ ?_
 · exact⟨⟨_,HR.out.1⟩,HR.out.2⟩
 iterate 3
  refine plan_look rfl rfl (fun w0 hS=>(by clear hS;go_simp;try rfl)) ?_;simp only[Act.put,nAq,nBq,nCq]
 refine plan_look (v:=.pointer (some ⟨s,0,none⟩)) rfl rfl (fun w0 hS=>(by obtain⟨⟨va,hva⟩,_⟩:=hS;have c1:=AH hva (i:=0) rfl;clear hva;go_simp;try rfl)) ?_;simp only[Act.put,nAq,nBq,nCq]
 iterate 2
  refine plan_look rfl rfl (fun w0 hS=>(by clear hS;go_simp;try rfl)) ?_;simp only[Act.put,nAq,nBq,nCq]
 refine Aa (cur:=X) (t:=146) (fr:=(0,0)) rfl rfl 47 (.tmp 24) rfl w.heap.size 1 32 rfl (fun w0 hS=>hS.2) Tryz.underlying47 rfl Ab (by rw[HX.out.1];omega) K HX.out.2.1 ?_;simp only[Act.put,nAq,nBq,nCq];refine plan_look rfl rfl (fun w0 hS=>(by clear hS;go_simp;try rfl)) ?_;simp only[Act.put,nAq,nBq,nCq];refine AW rfl ?_;go_wp2_with fail;refine HP.out.mono ?_;rintro e w2 ⟨σ',⟨y,rfl,hp⟩,S2,B2⟩;have hx2:=B2.row (AM H1.out.2.1) (.inr (.inl rfl));have hg2:=B2.row (AM H1.out.2.2.1) (.inr (.inr rfl));obtain⟨aa2,ac2,hr2,_⟩:=S2.row
 have hP:∀(w1:World) (S1:ScAt w0 w1 c s b σ' σ root aside (fun k=>G k∨k=w.heap.size∨k=w.heap.size+1)),Calls Tryz.prog 224 #[.pointer (some ⟨b,0,none⟩),.int .i64 r,.agg K,.slice ao n cap] w1 fun e w'=>∃τ',(e=.returned (.tuple #[.int .i64 y,.int .i64 er])∧τ'=σ')∧ScAt w0 w' c s b σ' τ' root aside (fun k=>G k∨k=w.heap.size∨k=w.heap.size+1)∧But (fun k=>G k∨k=w.heap.size∨k=w.heap.size+1) w1 w':=fun w1 S1=>by
  refine ScAt.Va (P:=fun e τ'=>e=.returned (.tuple #[.int .i64 y,.int .i64 er])∧τ'=σ') S1 (fun G' o=>?_);have:=Sk o HG.out r HKK.out.2.1 (HB.out w1 S1.world) hp;rw[←HKK.out.1, ←HKK.out.2.2] at this;refine this.mono ?_;rintro e w' ⟨he,ho,hB⟩;exact⟨σ',⟨he,rfl⟩,ho,hB⟩
 have bw2:But G w w2:=((AN.but H1.out.2.2.2).then (AN.but (Ch.refl _ w1).drew)).then (B2.less (fun k hk=>.inl hk));have BW2:=Lib.hid bw2;have H2:=(hIq S2 (aIq hg2 hp))
 have HP2:=Lib.hid (hP _ (S2.adds (Ch.refl _ _).drew));have HR2:=(hIq hr2 hx2)
 clear hr2 hx2 hg2 hp hP S2 B2 bw2;dsimp only;go_step;refine wpList_nil ?_;change _∧_;refine⟨⟨⟨_,HR2.out.1⟩,HR2.out.2⟩,?_⟩
 iterate 4
  refine plan_look rfl rfl (fun w0 hS=>(by clear hS;go_simp;try rfl)) ?_;simp only[Act.put,nAq,nBq,nCq]
 refine AZ ?_;simp only[List.drop_succ_cons,List.drop_zero];go_wp2;refine NoPanic.normal ?_;go_wp2;refine AP (fun wz=>(∃va,wz.heap[c]?=some (.cells #[.pointer (some ⟨s,0,none⟩),.pointer (some ⟨b,0,none⟩),.int .i64 root,va] 63 (0,0)))∧wz.heap[w.heap.size]?=some (.cells X 146 (0,0))) 14 [(0,false),(1,false),(2,false),(3,false),(4,false),(5,false),(6,false),(7,false),(8,false),(9,true),(10,false),(11,false),(12,false),(13,false)] (by kernel_rfl) (by kernel_rfl) ?_ ?_
 · exact⟨⟨_,AM HR2.out.1⟩,AM HR2.out.2⟩
 iterate 3
  refine plan_look rfl rfl (fun w0 hS=>(by clear hS;go_simp;try rfl)) ?_;simp only[Act.put,nAq,nBq,nCq]
 refine plan_look (v:=.pointer (some ⟨b,0,none⟩)) rfl rfl (fun w0 hS=>(by obtain⟨⟨va,hva⟩,_⟩:=hS;have c1:=AH hva (i:=1) rfl;clear hva;go_simp;try rfl)) ?_;simp only[Act.put,nAq,nBq,nCq]
 iterate 2
  refine plan_look rfl rfl (fun w0 hS=>(by clear hS;go_simp;try rfl)) ?_;simp only[Act.put,nAq,nBq,nCq]
 refine Aa (cur:=X) (t:=146) (fr:=(0,0)) rfl rfl 47 (.tmp 36) rfl w.heap.size 1 32 rfl (fun w0 hS=>hS.2) Tryz.underlying47 rfl Ab (by rw[HX.out.1];omega) K HX.out.2.1 ?_;simp only[Act.put,nAq,nBq,nCq];refine plan_look rfl rfl (fun w0 hS=>(by clear hS;go_simp;try rfl)) ?_;simp only[Act.put,nAq,nBq,nCq];refine plan_look (v:=.slice ao n cap) rfl rfl (fun w0 hS=>(by have c1:=AH hS.2 HX.out.2.2;clear hS;go_simp;try rfl)) ?_;simp only[Act.put,nAq,nBq,nCq];refine AW rfl ?_;go_wp2_with fail;refine HP2.out.mono ?_;rintro e w3 ⟨τ',⟨rfl,rfl⟩,S3,B3⟩;have hx3:=B3.row (AM HR2.out.2) (.inr (.inl rfl));have hg3:=B3.row (AM H2.out.2.1) (.inr (.inr rfl));obtain⟨aa3,ac3,hr3,_⟩:=S3.row;have BW3:=Lib.hid ((BW2.out.then (AN.but (Ch.refl _ w2).drew)).then (B3.less (fun k hk=>.inl hk)));have H3:=(hIq S3 (aIq hg3 H2.out.2.2))
 have HR3:=(hIq hr3 hx3)
 clear hr3 hx3 hg3 S3 B3 H2 HP2 HP;dsimp only;go_step;refine wpList_nil ?_;change _∧_;refine⟨⟨⟨_,HR3.out.1⟩,HR3.out.2⟩,?_⟩
 iterate 4
  refine plan_look rfl rfl (fun w0 hS=>(by clear hS;go_simp;try rfl)) ?_;simp only[Act.put,nAq,nBq,nCq]
 refine AZ ?_;simp only[List.drop_succ_cons,List.drop_zero];go_wp2;refine NoPanic.normal ?_;have hkb:=ML H3.out.2.1 (HB.out w3 H3.out.1.world) HL4.out;rw[←HN.out] at hkb;have HKB:=Lib.hid hkb;have cv3:=AH HR3.out.2 HX.out.2.2;clear hkb;go_wp2_with fail;refine HKB.out.mono ?_;rintro e w4 ⟨rfl,a4⟩;have S4:=H3.out.1.adds a4;have BW4:=Lib.hid (BW3.out.then (AN.but a4));have hob:=IJ (Mg (a4.row H3.out.2.1 id) HL4.out);rw[←HN.out] at hob;have H4:=Lib.hid S4;have HOB:=Lib.hid hob;clear cv3 a4 S4 hob;go_wp2_with fail;refine HOB.out.mono ?_;rintro e w5 ⟨⟨u,rfl⟩,c5⟩
 have S5:=H4.out.Wp c5 (fun k hk=>by
  have hk':k=w.heap.size+1:=by cases hk;rfl
  exact⟨.inr (.inr hk'),by have:=H0.out.2.2.2;omega⟩)
 have H5:=Lib.hid S5
 have BW5:=Lib.hid (BW4.out.then (c5.mono (fun k _ hk hg=>by
  have h1:=HGG.out k hg;have hk':k=w.heap.size+1:=by cases hk;rfl
  omega)))
 clear S5 c5;go_wp2;go_ret3;exact⟨y,τ',⟨rfl,H3.out.2.2⟩,H5.out.less (fun k hk=>.inl hk),BW5.out⟩
end
structure Sce (σ:AG Nd) (root:Int) (L:Av) (A:List (Int×Av)) (n i:Nat):Prop where
 roots:CQ σ ((root,L)::A)
 nz:∀p∈A,p.1≠0
 len:A.length≤9
 tot:total σ≤601*i
 room:σ.room=n
theorem Sce.next {σ:AG Nd} {root:Int} {L:Av} {A:List (Int×Av)} {n i:Nat} (h:Sce σ root L A n i):Sce σ root L A n (i+1):=⟨h.roots,h.nz,h.len,by have:=h.tot;omega,h.room⟩
def Aq (A:List (Int×Av)):List Int:=A.map Prod.fst
def DM (w0 w':World) (c s b n i:Nat) (G:Nat→Prop) (e:Ending):Prop :=
 e=.returned (.bool true)∧∃(σ:AG Nd) (root:Int) (L:Av) (A:List (Int×Av)),ScAt w0 w' c s b σ σ root (Aq A) G∧Sce σ root L A n (i+1)
theorem Bc.Ar {x:Bc}:x.cells[0]?=some (.int .i64 x.kind):=rfl
theorem GB.same {σ σ':AG Nd} {r x:Int} {key bs:List UInt8} (h:GB σ r key bs x σ') (he:Bh σ r bs≠0):x=0∧σ'=σ:=by
 rcases h with⟨_,h1,h2⟩|⟨h0,_⟩
 · exact⟨h1,h2⟩
 exact absurd h0 he
section
variable {w0 w w' : World} {c s b n i : Nat} {σ : AG Nd} {root : Int} {L : Av} {A : List (Int×Av)} {G : Nat→Prop}
theorem Tp (h:ScAt w0 w c s b σ σ root (Aq A) G) (P:Sce σ root L A n i) (x:Bc) (hx:x.Good w0) (hk:¬x.kind=0∧¬x.kind=1∧¬x.kind=2∧¬x.kind=4∧¬x.kind=5∧¬x.kind=6) :
 Calls Tryz.prog 71 #[.pointer (some ⟨c,0,none⟩),.agg x.cells] w fun e w'=>DM w0 w' c s b n i G e:=by
 unfold DM;have q0:=Bc.Ar (x:=x);obtain⟨X,hX⟩:∃X,X=x.cells:=⟨_,rfl⟩
 obtain⟨k,hkk⟩:∃k,k=x.kind:=⟨_,rfl⟩
 rw[←hX, ←hkk] at q0;rw[←hX];rw[←hkk] at hk;obtain⟨k0,k1,k2,k4,k5,k6⟩:=hk;have b0:(k == 0)=false:=by simpa using k0
 have b1:(k == 1)=false:=by simpa using k1
 have b2:(k == 2)=false:=by simpa using k2
 have b4:(k == 4)=false:=by simpa using k4
 have b5:(k == 5)=false:=by simpa using k5
 have b6:(k == 6)=false:=by simpa using k6
 have a0:AN w (w.alloc (.cells X 146)):=(Ch.refl (fun _=>False) w).alloc _;have HS:=(hIq (h.adds a0) P)
 have ck:=AH (heap_alloc_new w (.cells X 146)) q0;clear h P q0 hX hkk a0;go_enter Tryz.func71,Tryz.ntmps71;go_wp2;go_ret;exact⟨rfl,_,_,_,_,HS.out.1,HS.out.2.next⟩
theorem Uy (h:ScAt w0 w c s b σ σ root (Aq A) G) (P:Sce σ root L A n i) (x:Bc) (hx:x.Good w0) (hk:x.kind=4) :
 Calls Tryz.prog 71 #[.pointer (some ⟨c,0,none⟩),.agg x.cells] w fun e w'=>DM w0 w' c s b n i G e:=by
 unfold DM;have q0:=Bc.Ar (x:=x);have qs:=Bc.size hx.key;have a0:AN w (w.alloc (.cells x.cells 146)):=(Ch.refl (fun _=>False) w).alloc _;have hc:=fun w1 (a:AN w w1)=>Ki (h.adds a) P.roots.good root x (hx.Ae (h.world.trans a (fun _=>fEq)) (fun _=>fEq))
 obtain⟨X,hX⟩:∃X,X=x.cells:=⟨_,rfl⟩
 rw[hk, ←hX] at q0;rw[←hX] at qs a0 hc;rw[←hX];obtain⟨aa,ac,hr,_⟩:=h.row;have HS:=(hIq h P)
 have HC:=Lib.hid hc;have HX:=Lib.hid qs;have H0:=(hIq (AQ hr (.cells X 146)) (aIq (heap_alloc_new w (.cells X 146)) a0))
 have ck:=AH (heap_alloc_new w (.cells X 146)) q0;clear h P q0 qs hX hk hx a0 hc hr;go_enter Tryz.func71,Tryz.ntmps71;go_wp2;refine AP (fun wz=>(∃va,wz.heap[c]?=some (.cells #[.pointer (some ⟨s,0,none⟩),.pointer (some ⟨b,0,none⟩),.int .i64 root,va] 63 (0,0)))∧wz.heap[w.heap.size]?=some (.cells X 146 (0,0))) 7 [(0,false),(1,false),(2,false),(3,false),(4,false),(5,false),(6,true)] (by kernel_rfl) (by kernel_rfl) ?_ ?_
 · exact⟨⟨_,AM H0.out.1⟩,AM H0.out.2.1⟩
 iterate 4
  refine plan_look rfl rfl (fun w0 hS=>(by clear hS;go_simp;try rfl)) ?_;simp only[Act.put,nAq,nBq,nCq]
 refine plan_look (v:=.int .i64 root) rfl rfl (fun w0 hS=>(by obtain⟨⟨va,hva⟩,_⟩:=hS;have c1:=AH hva (i:=2) rfl;clear hva;go_simp;try rfl)) ?_;simp only[Act.put,nAq,nBq,nCq];refine Aa (cur:=X) (t:=146) (fr:=(0,0)) rfl rfl 146 (.tmp 3) rfl w.heap.size 0 35 rfl (fun w0 hS=>hS.2) Tryz.underlying146 rfl Ht (by rw[HX.out];omega) X (by simp[←HX.out]) ?_;simp only[Act.put,nAq,nBq,nCq];refine AW rfl ?_;go_wp2_with fail;refine(HC.out _ H0.out.2.2.drew).mono ?_;rintro e w2 ⟨rfl,a2⟩;have H2:=(hIq (a2.row (AM H0.out.1) id) (aIq (a2.row (AM H0.out.2.1) id) (H0.out.2.2.drew.trans a2 (fun _=>fEq))))
 clear a2;dsimp only;go_step;refine wpList_nil ?_;change _∧_;refine⟨⟨⟨_,H2.out.1⟩,H2.out.2.1⟩,?_⟩;refine AZ ?_;simp only[List.drop_succ_cons,List.drop_zero];go_wp2;refine NoPanic.normal ?_;go_wp2;go_ret;exact⟨rfl,_,_,_,_,HS.out.1.adds H2.out.2.2,HS.out.2.next⟩
theorem Vx (h:ScAt w0 w c s b σ σ root (Aq A) G) (P:Sce σ root L A n i) (x:Bc) (hx:x.Good w0) (hk:x.kind=6) :
 Calls Tryz.prog 71 #[.pointer (some ⟨c,0,none⟩),.agg x.cells] w fun e w'=>DM w0 w' c s b n i G e:=by
 unfold DM;have q0:=Bc.Ar (x:=x);have qh:=Bc.VZ hx.key;have qs:=Bc.size hx.key;have a0:AN w (w.alloc (.cells x.cells 146)):=(Ch.refl (fun _=>False) w).alloc _;have hc:=fun w1 (a:AN w w1)=>Ki (h.adds a) P.roots.good x.h x (hx.Ae (h.world.trans a (fun _=>fEq)) (fun _=>fEq))
 obtain⟨X,hX⟩:∃X,X=x.cells:=⟨_,rfl⟩
 obtain⟨xh,hxh⟩:∃xh,xh=x.h:=⟨_,rfl⟩
 rw[hk, ←hX] at q0;rw[←hX, ←hxh] at qh hc;rw[←hX] at qs a0;rw[←hX];have HS:=(hIq h P)
 have HC:=Lib.hid (hc _ a0);have HX:=Lib.hid qs;have HA:=Lib.hid a0;have H0:=Lib.hid (heap_alloc_new w (.cells X 146));have ck:=AH (heap_alloc_new w (.cells X 146)) q0;have ch:=AH (heap_alloc_new w (.cells X 146)) qh;clear h P q0 qh qs hX hk hx a0 hc hxh;go_enter Tryz.func71,Tryz.ntmps71
 go_wp2_with (first
  | fail
  | ((with_reducible show zOq (.load 146 _));refine AJ rfl 146 _ rfl w.heap.size 0 rfl H0.out Tryz.underlying146 rfl Ht (by rw[HX.out];omega) X (by simp[←HX.out]) ?_))
 refine HC.out.mono ?_;rintro e w2 ⟨rfl,a2⟩;have H2:=Lib.hid (HA.out.trans a2 (fun _=>fEq));clear a2;go_wp2;go_ret;exact⟨rfl,_,_,_,_,HS.out.1.adds H2.out,HS.out.2.next⟩
end
section
variable {w0 w w' : World} {c s b n i : Nat} {σ : AG Nd} {root : Int} {L : Av} {A : List (Int×Av)} {G : Nat→Prop}
theorem Sce.put {σ':AG Nd} {y:Int} {key bs:List UInt8} (P:Sce σ root L A n i) (hi:i≤16) (hk:key.length=32) (hp:GB σ root key bs y σ') (he:Bh σ root bs=0):Sce σ' y (upd L key bs) A n (i+1):=by
 have ht:=P.tot;obtain⟨hw,hr,_⟩:=hp.roots P.roots hk (by omega) he;exact⟨hr,P.nz,P.len,by have:=hw.total;omega,by rw[hw.room];exact P.room⟩
theorem Vz (h:ScAt w0 w c s b σ σ root (Aq A) G) (P:Sce σ root L A n i) (hi:i≤16) (x:Bc) (hx:x.Good w0) (hlen:x.val.length≤2000) (hk:x.kind=0) :
 Calls Tryz.prog 71 #[.pointer (some ⟨c,0,none⟩),.agg x.cells] w fun e w'=>DM w0 w' c s b n i G e:=by
 unfold DM;have q0:=Bc.Ar (x:=x);have qs:=Bc.size hx.key;have hkl:=hx.key;have a0:AN w (w.alloc (.cells x.cells 146)):=(Ch.refl (fun _=>False) w).alloc _
 have hc:∀w1,w1.heap.size=w.heap.size+1→AN w w1→PutScene w0 w1 c s b σ root (Aq A) (fun k=>G k∨k=w.heap.size) root x:=fun w1 hz a=>RM (h.more a (fun k hk=>by
  rcases hk with hk|rfl
  · exact .inl hk
  exact .inr ⟨Nat.le_refl _,by omega⟩)) P.roots.good root x hx hlen
 unfold PutScene PC at hc;obtain⟨X,hX⟩:∃X,X=x.cells:=⟨_,rfl⟩
 obtain⟨er,her⟩:∃er,er=Bh σ root x.val:=⟨_,rfl⟩
 rw[hk, ←hX] at q0;rw[←hX] at qs a0 hc;rw[←her] at hc;rw[←hX];obtain⟨aa,ac,hr,_⟩:=h.row;have HP:=(hIq P (aIq hi (aIq hkl her)))
 have HC:=Lib.hid hc;have HX:=Lib.hid qs;have H0:=(hIq (AQ hr (.cells X 146)) (aIq (heap_alloc_new w (.cells X 146)) a0))
 have ck:=AH (heap_alloc_new w (.cells X 146)) q0;clear h P q0 qs hX hk hx a0 hc hr hi hkl her hlen;go_enter Tryz.func71,Tryz.ntmps71;go_wp2;refine AP (fun wz=>(∃va,wz.heap[c]?=some (.cells #[.pointer (some ⟨s,0,none⟩),.pointer (some ⟨b,0,none⟩),.int .i64 root,va] 63 (0,0)))∧wz.heap[w.heap.size]?=some (.cells X 146 (0,0))) 13 [(0,false),(1,false),(2,false),(3,false),(4,false),(5,false),(6,true),(7,false),(8,false),(9,false),(10,false),(11,false),(12,false)] (by kernel_rfl) (by kernel_rfl) ?_ ?_
 · exact⟨⟨_,AM H0.out.1⟩,AM H0.out.2.1⟩
 iterate 4
  refine plan_look rfl rfl (fun w0 hS=>(by clear hS;go_simp;try rfl)) ?_;simp only[Act.put,nAq,nBq,nCq]
 refine plan_look (v:=.int .i64 root) rfl rfl (fun w0 hS=>(by obtain⟨⟨va,hva⟩,_⟩:=hS;have c1:=AH hva (i:=2) rfl;clear hva;go_simp;try rfl)) ?_;simp only[Act.put,nAq,nBq,nCq];refine Aa (cur:=X) (t:=146) (fr:=(0,0)) rfl rfl 146 (.tmp 3) rfl w.heap.size 0 35 rfl (fun w0 hS=>hS.2) Tryz.underlying146 rfl Ht (by rw[HX.out];omega) X (by simp[←HX.out]) ?_;simp only[Act.put,nAq,nBq,nCq];refine AW rfl ?_;go_wp2_with fail;refine(HC.out _ (by show(w.alloc (.cells X 146)).heap.size=_;simp) H0.out.2.2.drew).mono ?_;rintro e w2 ⟨y,σ1,⟨rfl,hp⟩,S2,B2⟩;obtain⟨aa2,ac2,hr2,_⟩:=S2.row;have hx2:=B2.row (AM H0.out.2.1) (.inr rfl);have H2:=(hIq S2 (aIq hp (aIq hr2 hx2)))
 clear S2 B2 hp hr2 hx2;dsimp only;go_step;refine wpList_nil ?_;change _∧_;refine⟨⟨⟨_,H2.out.2.2.1⟩,H2.out.2.2.2⟩,?_⟩
 iterate 6
  refine plan_look rfl rfl (fun w0 hS=>(by clear hS;go_simp;try rfl)) ?_;simp only[Act.put,nAq,nBq,nCq]
 refine AZ ?_;simp only[List.drop_succ_cons,List.drop_zero];go_wp2;refine NoPanic.normal ?_;by_cases he:er=0
 · have hP:=HP.out.1.put HP.out.2.1 HP.out.2.2.1 H2.out.2.1 (by rw[←HP.out.2.2.2];exact he)
   have hs2:=H2.out.1.UI y;have HE:=(hIq hP (hs2.less (fun k hk=>.inl hk)))
   have c2:=AH H2.out.2.2.1 (i:=2) rfl;have f2:=Ai H2.out.2.2.1 2;have l2:=Ad H2.out.2.2.1;clear hP hs2;go_wp2;go_ret;exact⟨rfl,_,_,_,_,HE.out.2,HE.out.1⟩
 obtain⟨_,e2⟩:=H2.out.2.1.same (by rw[←HP.out.2.2.2];exact he);have hs2:=H2.out.1.less (G':=G) (fun k hk=>.inl hk);rw[e2] at hs2;have HE:=(hIq HP.out.1.next hs2)
 have he2:(er == 0)=false:=by simpa using he
 clear e2 hs2;go_wp2;go_ret;exact⟨rfl,_,_,_,_,HE.out.2,HE.out.1⟩
theorem Uw (h:ScAt w0 w c s b σ σ root (Aq A) G) (P:Sce σ root L A n i) (x:Bc) (hx:x.Good w0) (hk:x.kind=5) :
 Calls Tryz.prog 71 #[.pointer (some ⟨c,0,none⟩),.agg x.cells] w fun e w'=>DM w0 w' c s b n i G e:=by
 unfold DM;have q0:=Bc.Ar (x:=x);have qh:=Bc.VZ hx.key;have a0:AN w (w.alloc (.cells x.cells 146)):=(Ch.refl (fun _=>False) w).alloc _;obtain⟨X,hX⟩:∃X,X=x.cells:=⟨_,rfl⟩
 obtain⟨xh,hxh⟩:∃xh,xh=x.h:=⟨_,rfl⟩
 rw[hk, ←hX] at q0;rw[←hX, ←hxh] at qh;rw[←hX] at a0;rw[←hX]
 have hf1:=fun w1 (a:AN w w1)=>(show Calls Tryz.prog 125 #[.pointer (some ⟨s,0,none⟩),.int .i64 xh] w1 (fun e w'=>e=.returned (.bool (C9 σ xh))∧w1=w') by
  obtain⟨F,hF⟩:=(h.adds a).ow.at;exact JZ hF xh)
 have hf2:=fun w1 (a:AN w w1)=>Gg (h.adds a).UD P.roots.good xh
 have hh1:=fun w1 (a:AN w w1)=>(show Calls Tryz.prog 124 #[.pointer (some ⟨s,0,none⟩),.int .i64 xh] w1 (fun e w'=>e=.returned (.int .i64 (Az σ xh))∧AN w1 w') by
  obtain⟨F,hF⟩:=(h.adds a).ow.at;exact Dn hF xh)
 have hh2:=fun w1 (a:AN w w1)=>JF (h.adds a).UD P.roots.good xh
 obtain⟨ft,hft⟩:∃ft,ft=C9 σ xh:=⟨_,rfl⟩
 obtain⟨er,her⟩:∃er,er=Az σ xh:=⟨_,rfl⟩
 rw[←hft] at hf1 hf2;rw[←her] at hh1 hh2;obtain⟨aa,ac,hr,_⟩:=h.row;have HS:=(hIq h P)
 have F1:=Lib.hid hf1;have F2:=Lib.hid hf2;have E1:=Lib.hid hh1;have E2:=Lib.hid hh2;have HX:=Lib.hid qh;have H0:=(hIq (AQ hr (.cells X 146)) (aIq (heap_alloc_new w (.cells X 146)) a0))
 have ck:=AH (heap_alloc_new w (.cells X 146)) q0;clear h P q0 qh hX hk hx a0 hf1 hf2 hh1 hh2 hr hxh hft her;go_enter Tryz.func71,Tryz.ntmps71;go_wp2;refine AP (fun wz=>(∃va,wz.heap[c]?=some (.cells #[.pointer (some ⟨s,0,none⟩),.pointer (some ⟨b,0,none⟩),.int .i64 root,va] 63 (0,0)))∧wz.heap[w.heap.size]?=some (.cells X 146 (0,0))) 32 [(0,false),(1,false),(2,false),(3,false),(4,false),(5,false),(7,false),(8,false),(9,false),(10,false),(11,false),(12,false),(6,true),(13,true),(14,false),(15,false),(16,false),(17,false),(18,false),(19,false),(20,false),(21,false),(23,false),(24,false),(25,false),(26,false),(27,false),(28,false),(22,true),(29,true),(30,false),(31,false)] (by kernel_rfl) (by kernel_rfl) ?_ ?_
 · exact⟨⟨_,AM H0.out.1⟩,AM H0.out.2.1⟩
 iterate 3
  refine plan_look rfl rfl (fun w0 hS=>(by clear hS;go_simp;try rfl)) ?_;simp only[Act.put,nAq,nBq,nCq]
 refine plan_look (v:=.pointer (some ⟨s,0,none⟩)) rfl rfl (fun w0 hS=>(by obtain⟨⟨va,hva⟩,_⟩:=hS;have c1:=AH hva (i:=0) rfl;clear hva;go_simp;try rfl)) ?_;simp only[Act.put,nAq,nBq,nCq];refine plan_look rfl rfl (fun w0 hS=>(by clear hS;go_simp;try rfl)) ?_;simp only[Act.put,nAq,nBq,nCq];refine plan_look (v:=.int .i64 xh) rfl rfl (fun w0 hS=>(by have c1:=AH hS.2 HX.out;clear hS;go_simp;try rfl)) ?_;simp only[Act.put,nAq,nBq,nCq]
 iterate 3
  refine plan_look rfl rfl (fun w0 hS=>(by clear hS;go_simp;try rfl)) ?_;simp only[Act.put,nAq,nBq,nCq]
 refine plan_look (v:=.pointer (some ⟨b,0,none⟩)) rfl rfl (fun w0 hS=>(by obtain⟨⟨va,hva⟩,_⟩:=hS;have c1:=AH hva (i:=1) rfl;clear hva;go_simp;try rfl)) ?_;simp only[Act.put,nAq,nBq,nCq];refine plan_look rfl rfl (fun w0 hS=>(by clear hS;go_simp;try rfl)) ?_;simp only[Act.put,nAq,nBq,nCq];refine plan_look (v:=.int .i64 xh) rfl rfl (fun w0 hS=>(by have c1:=AH hS.2 HX.out;clear hS;go_simp;try rfl)) ?_;simp only[Act.put,nAq,nBq,nCq];refine AW rfl ?_;go_wp2_with fail;refine(F1.out _ H0.out.2.2.drew).mono ?_;rintro e w2 ⟨rfl,hw2⟩;subst hw2;dsimp only;go_step;refine wpList_nil ?_;change _∧_;refine⟨⟨⟨_,AM H0.out.1⟩,AM H0.out.2.1⟩,?_⟩;refine AW rfl ?_;go_wp2_with fail;refine(F2.out _ H0.out.2.2.drew).mono ?_;rintro e w2 ⟨rfl,a2⟩;have H2:=(hIq (a2.row (AM H0.out.1) id) (aIq (a2.row (AM H0.out.2.1) id) (H0.out.2.2.drew.trans a2 (fun _=>fEq))))
 clear a2;dsimp only;go_step;refine wpList_nil ?_;change _∧_;refine⟨⟨⟨_,H2.out.1⟩,H2.out.2.1⟩,?_⟩;refine plan_look (v:=.bool true) rfl rfl (fun w0 hS=>(by clear hS;cases ft<;>(go_simp;try rfl))) ?_;simp only[Act.put,nAq,nBq,nCq]
 iterate 4
  refine plan_look rfl rfl (fun w0 hS=>(by clear hS;go_simp;try rfl)) ?_;simp only[Act.put,nAq,nBq,nCq]
 refine plan_look (v:=.pointer (some ⟨s,0,none⟩)) rfl rfl (fun w0 hS=>(by obtain⟨⟨va,hva⟩,_⟩:=hS;have c1:=AH hva (i:=0) rfl;clear hva;go_simp;try rfl)) ?_;simp only[Act.put,nAq,nBq,nCq];refine plan_look rfl rfl (fun w0 hS=>(by clear hS;go_simp;try rfl)) ?_;simp only[Act.put,nAq,nBq,nCq];refine plan_look (v:=.int .i64 xh) rfl rfl (fun w0 hS=>(by have c1:=AH hS.2 HX.out;clear hS;go_simp;try rfl)) ?_;simp only[Act.put,nAq,nBq,nCq]
 iterate 3
  refine plan_look rfl rfl (fun w0 hS=>(by clear hS;go_simp;try rfl)) ?_;simp only[Act.put,nAq,nBq,nCq]
 refine plan_look (v:=.pointer (some ⟨b,0,none⟩)) rfl rfl (fun w0 hS=>(by obtain⟨⟨va,hva⟩,_⟩:=hS;have c1:=AH hva (i:=1) rfl;clear hva;go_simp;try rfl)) ?_;simp only[Act.put,nAq,nBq,nCq];refine plan_look rfl rfl (fun w0 hS=>(by clear hS;go_simp;try rfl)) ?_;simp only[Act.put,nAq,nBq,nCq];refine plan_look (v:=.int .i64 xh) rfl rfl (fun w0 hS=>(by have c1:=AH hS.2 HX.out;clear hS;go_simp;try rfl)) ?_;simp only[Act.put,nAq,nBq,nCq];refine AW rfl ?_;go_wp2_with fail;refine(E1.out _ H2.out.2.2).mono ?_;rintro e w3 ⟨rfl,a3⟩;have H3:=(hIq (a3.row H2.out.1 id) (aIq (a3.row H2.out.2.1 id) (H2.out.2.2.trans a3 (fun _=>fEq))))
 clear a3;dsimp only;go_step;refine wpList_nil ?_;change _∧_;refine⟨⟨⟨_,H3.out.1⟩,H3.out.2.1⟩,?_⟩;refine AW rfl ?_;go_wp2_with fail;refine(E2.out _ H3.out.2.2).mono ?_;rintro e w4 ⟨rfl,a4⟩;have H4:=(hIq (a4.row H3.out.1 id) (aIq (a4.row H3.out.2.1 id) (H3.out.2.2.trans a4 (fun _=>fEq))))
 clear a4;dsimp only;go_step;refine wpList_nil ?_;change _∧_;refine⟨⟨⟨_,H4.out.1⟩,H4.out.2.1⟩,?_⟩
 iterate 2
  refine plan_look rfl rfl (fun w0 hS=>(by clear hS;go_simp;try rfl)) ?_;simp only[Act.put,nAq,nBq,nCq]
 refine AZ ?_;simp only[List.drop_succ_cons,List.drop_zero];go_wp2;refine NoPanic.normal ?_;go_wp2;go_ret;exact⟨rfl,_,_,_,_,HS.out.1.adds H4.out.2.2,HS.out.2.next⟩
end
end Go.Proofs.YtngbdbpofifimaaGreat.Store
