/- Laws of the layers below. -/
import Derived.Test.YtngbdbpofifimaaGreatQm38
import Derived.Shelf.Sort.Plain
import Derived.Shelf.Slices.In.SortNone2
import Derived.Maps.RangeWalk
import Derived.Sort.OwnSortedInts
set_option maxHeartbeats 3200000
set_option maxRecDepth 100000
set_option linter.unusedVariables false
namespace Go.Proofs.YtngbdbpofifimaaGreat.Store
open Go.Proofs.YtngbdbpofifimaaGreat.Law13
open Go.RowKit Go.Sort Go.Proofs.YtngbdbpofifimaaGreat.ShaW Go.Proofs.YtngbdbpofifimaaGreat.Path Go.Proofs.YtngbdbpofifimaaGreat.Bk
section
variable {w0 w : World} {c s b : Nat} {σ : AG Nd} {root : Int} {aside : List Int} {G : Nat→Prop} {T : Tr}
theorem Qk (hS:ScAt w0 w c s b σ σ root aside G) (GG:Good σ) (x:CJ) (hk:x.key.length=32) (ht:x.til.length=32) (hT:AX σ (Gd x root)=0→Rep (sk σ) (Gd x root) 0 T) (hlv:T.leaves≤65536) :
 Calls Tryz.prog 20 #[.pointer (some ⟨c,0,none⟩),.agg x.cells] w fun e w'=>e=.returned (.bool true)∧AN w w':=by
 obtain⟨w1,hw1⟩:∃w1,w1=w.alloc (.cells x.cells 49):=⟨_,rfl⟩
 have a1:AN w w1:=by rw[hw1];exact(Ch.refl _ _).alloc _
 have r1:w1.heap[w.heap.size]?=some (.cells x.cells 49 (0,0)):=by rw[hw1];exact heap_alloc_new _ _
 have hat:∀wz,AN w1 wz→∃F,At wz s F σ:=fun wz a=>(hS.adds (a1.trans a (fun _=>fEq))).ow.at
 have hro:∀wz,AN w1 wz→ROw w0 wz b σ G:=fun wz a=>(hS.adds (a1.trans a (fun _=>fEq))).UD
 obtain⟨ao,cap,hrow,_⟩:=(hS.adds a1).row;obtain⟨rt,hrt⟩:∃rt,rt=Gd x root:=⟨_,rfl⟩
 have hc0:=fun wz (a:AN w1 wz)=>Kn x hk ht (a.row hrow id)
 rw[←hrt] at hc0 hT;have hc1:=fun wz (a:AN w1 wz)=>(hat wz a).elim fun F h=>Ub h GG hT
 have hc2:=fun wz (a:AN w1 wz)=>Mo (hro wz a) GG hT hlv
 have hc3:=fun wz (a:AN w1 wz)=>(hat wz a).elim fun F h=>V4 h GG hT hk
 have hc4:=fun wz (a:AN w1 wz)=>TJ (hro wz a) GG hT hlv hk
 have hc5:=fun wz (a:AN w1 wz)=>(hat wz a).elim fun F h=>(WU (nb:=w1.heap.size) h GG hT x.n).mono fun e w' (h:K7 _ _ _ _ _ e w')=>aIq h.two h.1
 have hc6:=fun wz (a:AN w1 wz)=>(Uu (hro w1 (Ch.refl _ _)) GG hT hlv a x.n).mono fun e w' (h:K7 _ _ _ _ _ e w')=>aIq h.two h.1
 have hc7:=fun wz (a:AN w1 wz)=>(hat wz a).elim fun F h=>Qa h GG hT hk ht
 have hc8:=fun wz (a:AN w1 wz)=>N9 (hro wz a) GG hT hlv hk ht
 obtain⟨er,her⟩:∃er,er=AX σ rt:=⟨_,rfl⟩
 obtain⟨n1,hn1⟩:∃n:Int,n=((BE σ rt T).length:Nat):=⟨_,rfl⟩
 obtain⟨n2,hn2⟩:∃n:Int,n=(bef ((BE σ rt T).map (·.1)) x.key:Nat):=⟨_,rfl⟩
 obtain⟨n3,hn3⟩:∃n:Int,n=(btw ((BE σ rt T).map (·.1)) x.key x.til:Nat):=⟨_,rfl⟩
 obtain⟨ne,hne⟩:∃n:Int,n=KE er x.n (BE σ rt T):=⟨_,rfl⟩
 obtain⟨np,hnp⟩:∃p,p=IP er x.n (BE σ rt T):=⟨_,rfl⟩
 obtain⟨nn,hnn⟩:∃n,n=x.n:=⟨_,rfl⟩
 obtain⟨K,hK⟩:∃K,K=AS x.key:=⟨_,rfl⟩
 obtain⟨J,hJ⟩:∃K,K=AS x.til:=⟨_,rfl⟩
 obtain⟨A,hA⟩:∃A,A=x.cells:=⟨_,rfl⟩
 rw[←her, ←hn1] at hc1 hc2;rw[←her, ←hn2, ←hK] at hc3 hc4;rw[←her, ←hne, ←hnp, ←hnn] at hc5 hc6;rw[←her, ←hn3, ←hK, ←hJ] at hc7 hc8;rw[←hA] at hc0 r1 hw1 ⊢;have hAs:A.size=67:=by rw[hA];exact CJ.size hk ht
 obtain⟨ba,hba⟩:∃ba,ba=w.heap.size:=⟨_,rfl⟩
 rw[←hba] at r1;obtain⟨SC,hSC⟩:∃SC:Array Value,SC=#[.pointer (some ⟨s,0,none⟩),.pointer (some ⟨b,0,none⟩),.int .i64 root,.slice ao aside.length cap]:=⟨_,rfl⟩
 rw[←hSC] at hrow;obtain⟨Z,hZ⟩:∃Z,Z=Di:=⟨_,rfl⟩
 obtain⟨hz0,hz1,_,_⟩:=Hj;rw[←hZ] at hz0 hz1;have HZ:=(hIq hz0 hz1)
 have HX:=(hIq hAs (aIq (show A.extract 1 (1+32)=K by rw[hA,hK];exact CJ.Be hk) (aIq (show A.extract 33 (33+32)=J by rw[hA,hJ];exact CJ.WQ hk ht) (show A[65]?=some (.int .i64 nn) by rw[hA,hnn];exact CJ.Wj hk ht))))
 have HAA:=Lib.hid (show A.extract 0 (0+67)=A by simp[←hAs]);have HSC:=(hIq (show SC[0]?=some (.pointer (some ⟨s,0,none⟩)) by rw[hSC];rfl) (aIq (show SC[1]?=some (.pointer (some ⟨b,0,none⟩)) by rw[hSC];rfl) (show SC[2]?=some (.int .i64 root) by rw[hSC];rfl)))
 have FR:=Lib.hid (fun wz (a:AN w1 wz)=>aIq (a.row hrow id) (a.row r1 id));have HW1:=Lib.hid hw1;have HA1:=(hIq a1 hba)
 have HC0:=Lib.hid hc0;have HC1:=Lib.hid hc1;have HC2:=Lib.hid hc2;have HC3:=Lib.hid hc3;have HC4:=Lib.hid hc4;have HC5:=Lib.hid hc5;have HC6:=Lib.hid hc6;have HC7:=Lib.hid hc7;have HC8:=Lib.hid hc8;clear hc0 hc1 hc2 hc3 hc4 hc5 hc6 hc7 hc8 hrow r1 hAs hA hK hJ hZ hz0 hz1 hSC hw1 a1 hat hro hT hlv hS hk ht her hn1 hn2 hn3 hne hnp hnn hrt hba;go_enter Tryz.func20,Tryz.ntmps20;go_upto_region 1 with fail;rw[←HW1.out, ←HA1.out.2]
 go_wp2_with (first
  | fail
  | ((with_reducible show zOq (.load 49 _));refine AJ rfl 49 _ rfl ba 0 rfl (FR.out _ (Ch.refl _ _)).2 Tryz.underlying49 rfl MY (by rw[HX.out.1];omega) A HAA.out ?_))
 refine(HC0.out _ (Ch.refl _ _)).mono ?_;rintro e w2 ⟨rfl,a⟩;have A2:=Lib.hid a;have c1:=AH (FR.out _ a).1 HSC.out.1;clear a;go_wp2_with fail;refine(HC1.out _ A2.out).mono ?_;rintro e w3 ⟨rfl,a⟩;have A3:=Lib.hid (A2.out.trans a (fun _=>fEq));clear a c1;have c1:=AH (FR.out _ A3.out).1 HSC.out.2.1;go_wp2_with fail;refine(HC2.out _ A3.out).mono ?_;rintro e w4 ⟨rfl,a⟩;have A4:=Lib.hid (A3.out.trans a (fun _=>fEq));clear a c1;go_wp2_with fail;refine AP (fun wz=>wz.heap[c]?=some (.cells SC 63 (0,0))∧wz.heap[ba]?=some (.cells A 49 (0,0))∧AN w1 wz) 13 [(0,false),(1,false),(2,false),(3,false),(4,false),(5,false),(6,false),(7,true),(8,false),(9,false),(10,false),(11,false),(12,false)] (by kernel_rfl) (by kernel_rfl) ?_ ?_
 · exact⟨AM (FR.out _ A4.out).1,AM (FR.out _ A4.out).2,(A4.out).drew⟩
 iterate 3
  refine plan_look rfl rfl (fun w0 hS=>(by clear hS;go_simp;try rfl)) ?_;simp only[Act.put,nAq,nBq,nCq]
 refine plan_look (v:=.pointer (some ⟨s,0,none⟩)) rfl rfl (fun w0 hS=>(by have c1:=AH hS.1 HSC.out.1;clear hS;go_simp;try rfl)) ?_;simp only[Act.put,nAq,nBq,nCq]
 iterate 2
  refine plan_look rfl rfl (fun w0 hS=>(by clear hS;go_simp;try rfl)) ?_;simp only[Act.put,nAq,nBq,nCq]
 refine Aa (cur:=A) (t:=49) (fr:=(0,0)) rfl rfl 47 _ rfl ba 1 32 rfl (fun w0 hS=>hS.2.1) Tryz.underlying47 rfl Ab (by rw[HX.out.1];omega) K HX.out.2.1 ?_;simp only[Act.put,nAq,nBq,nCq];refine AW rfl ?_;go_wp2_with fail;refine(HC3.out _ A4.out.drew).mono ?_;rintro e w5 ⟨rfl,a⟩;have A5:=Lib.hid ((A4.out.drew).trans a (fun _=>fEq));clear a;dsimp only;go_step;refine wpList_nil ?_;change _∧_;refine⟨⟨(FR.out _ A5.out).1,(FR.out _ A5.out).2,A5.out⟩,?_⟩
 iterate 5
  refine plan_look rfl rfl (fun w0 hS=>(by clear hS;go_simp;try rfl)) ?_;simp only[Act.put,nAq,nBq,nCq]
 refine AZ ?_;simp only[List.drop_succ_cons,List.drop_zero];refine NoPanic.normal ?_;go_wp2_with fail;refine AP (fun wz=>wz.heap[c]?=some (.cells SC 63 (0,0))∧wz.heap[ba]?=some (.cells A 49 (0,0))∧AN w1 wz) 13 [(0,false),(1,false),(2,false),(3,false),(4,false),(5,false),(6,false),(7,true),(8,false),(9,false),(10,false),(11,false),(12,false)] (by kernel_rfl) (by kernel_rfl) ?_ ?_
 · exact⟨AM (FR.out _ A5.out).1,AM (FR.out _ A5.out).2,(A5.out).drew⟩
 iterate 3
  refine plan_look rfl rfl (fun w0 hS=>(by clear hS;go_simp;try rfl)) ?_;simp only[Act.put,nAq,nBq,nCq]
 refine plan_look (v:=.pointer (some ⟨b,0,none⟩)) rfl rfl (fun w0 hS=>(by have c1:=AH hS.1 HSC.out.2.1;clear hS;go_simp;try rfl)) ?_;simp only[Act.put,nAq,nBq,nCq]
 iterate 2
  refine plan_look rfl rfl (fun w0 hS=>(by clear hS;go_simp;try rfl)) ?_;simp only[Act.put,nAq,nBq,nCq]
 refine Aa (cur:=A) (t:=49) (fr:=(0,0)) rfl rfl 47 _ rfl ba 1 32 rfl (fun w0 hS=>hS.2.1) Tryz.underlying47 rfl Ab (by rw[HX.out.1];omega) K HX.out.2.1 ?_;simp only[Act.put,nAq,nBq,nCq];refine AW rfl ?_;go_wp2_with fail;refine(HC4.out _ A5.out.drew).mono ?_;rintro e w6 ⟨rfl,a⟩;have A6:=Lib.hid ((A5.out.drew).trans a (fun _=>fEq));clear a;dsimp only;go_step;refine wpList_nil ?_;change _∧_;refine⟨⟨(FR.out _ A6.out).1,(FR.out _ A6.out).2,A6.out⟩,?_⟩
 iterate 5
  refine plan_look rfl rfl (fun w0 hS=>(by clear hS;go_simp;try rfl)) ?_;simp only[Act.put,nAq,nBq,nCq]
 refine AZ ?_;simp only[List.drop_succ_cons,List.drop_zero];refine NoPanic.normal ?_;go_wp2_with fail;go_cut [14,15] (fun sp se wx=>∃bp X v,sp=.pointer (some ⟨bp,0,none⟩)∧se=.int .i64 ne∧wx.heap[bp]?=some (.cells X 86 (0,0))∧GA wx X v np∧AN w6 wx)
 case first =>
  refine Fu 11 (fun wz=>wz.heap[c]?=some (.cells SC 63 (0,0))∧wz.heap[ba]?=some (.cells A 49 (0,0))∧AN w1 wz) 14 [(0,false),(1,false),(2,false),(3,false),(4,false),(5,false),(6,false),(7,true),(8,false),(9,false),(10,false)] [(12,true),(13,false)] (by kernel_rfl) (by kernel_rfl) ⟨AM (FR.out _ A6.out).1,AM (FR.out _ A6.out).2,(A6.out).drew⟩ ?_
  iterate 3
   refine CR rfl rfl (fun w0 hS=>(by clear hS;go_simp;try rfl)) ?_;simp only[Act.put,nAq,nBq,nCq]
  refine CR (v:=.pointer (some ⟨s,0,none⟩)) rfl rfl (fun w0 hS=>(by have c1:=AH hS.1 HSC.out.1;clear hS;go_simp;try rfl)) ?_;simp only[Act.put,nAq,nBq,nCq]
  iterate 2
   refine CR rfl rfl (fun w0 hS=>(by clear hS;go_simp;try rfl)) ?_;simp only[Act.put,nAq,nBq,nCq]
  refine CR (v:=.int .i64 nn) rfl rfl (fun w0 hS=>(by have c1:=AH hS.2.1 HX.out.2.2.2;clear hS;go_simp;try rfl)) ?_;simp only[Act.put,nAq,nBq,nCq];refine OA rfl rfl ?_ ?_
  · go_wp2_with fail
    refine(HC5.out _ A6.out.drew).mono ?_;rintro e w7 ⟨⟨X,v,rfl,hX,hO⟩,a⟩;have HA:=(hIq ((A6.out.drew).trans a (fun _=>fEq)) (aIq hX ((Ch.refl (fun _=>False) w6).drew.trans a (fun _=>fEq))))
    clear a hX hO;dsimp only;go_step;refine wpList_nil ?_;change _∧_;refine⟨⟨(FR.out _ HA.out.1).1,(FR.out _ HA.out.1).2,HA.out.1⟩,?_⟩
    iterate 3
     refine CR rfl rfl (fun w0 hS=>(by clear hS;go_simp;try rfl)) ?_;simp only[Act.put,nAq,nBq,nCq]
    refine KA rfl ?_
    go_wp2_with (first
     | fail
     | ((with_reducible show zOq (.alloc 86));refine AO rfl 86 rfl (.agg Z) HZ.out.1 ?_;dsimp only[Value.cells];try simp only[World.size_alloc]))
    refine⟨⟨(FR.out _ (HA.out.1.alloc _)).1,(FR.out _ (HA.out.1.alloc _)).2,HA.out.1.alloc _⟩,?_⟩;refine AW rfl ?_
    go_wp2_with (first
     | fail
     | ((with_reducible show zOq (.store 86 _ _));refine AI rfl 86 _ _ rfl w7.heap.size 0 X rfl rfl (heap_alloc_new _ _) (by rw[B8,HA.out.2.1.size]) (by rw[HA.out.2.1.size,HZ.out.2];omega) HA.out.2.1.one X (by rw[AT _ _ (by rw[Array.length_toList,Array.length_toList,HA.out.2.1.size,HZ.out.2])]) ?_))
    have HB:=Lib.hid ((HA.out.1.alloc (.cells Z 86)).setRow (g:=w7.heap.size) (.inr HA.out.1.size) X);refine⟨⟨(FR.out _ HB.out).1,(FR.out _ HB.out).2,HB.out⟩,?_⟩
    iterate 1
     refine plan_look rfl rfl (fun w0 hS=>(by clear hS;go_simp;try rfl)) ?_;simp only[Act.put,nAq,nBq,nCq]
    refine AZ ?_;simp only[List.drop_succ_cons,List.drop_zero];refine NoPanic.normal ?_;go_wp2;go_meet;exact⟨w7.heap.size,X,v,rfl,rfl,AK (heap_alloc_new _ _) X,HA.out.2.1.adds (((Ch.refl (fun _=>False) _).alloc _).setRow (.inr (Nat.le_refl _)) _),(HA.out.2.2.alloc _).setRow (.inr HA.out.2.2.size) _⟩
  go_wp2_with (first
   | fail
   | ((with_reducible show zOq (.alloc 86));refine AO rfl 86 rfl (.agg Z) HZ.out.1 ?_;dsimp only[Value.cells];try simp only[World.size_alloc]))
  refine⟨⟨(FR.out _ (A6.out.drew.alloc _)).1,(FR.out _ (A6.out.drew.alloc _)).2,A6.out.drew.alloc _⟩,?_⟩;refine AW rfl ?_;go_wp2_with fail;refine(HC5.out _ (A6.out.drew.alloc _)).mono ?_;rintro e w7 ⟨⟨X,v,rfl,hX,hO⟩,a⟩;have HA:=(hIq (((Ch.refl (fun _=>False) w6).drew.alloc (.cells Z 86)).trans a (fun _=>fEq)) (aIq hX (aIq (a.row (heap_alloc_new w6.drew (.cells Z 86)) id) hO)))
  clear a hX hO;dsimp only;go_step;refine wpList_nil ?_;change _∧_;refine⟨⟨(FR.out _ (A6.out.trans HA.out.1 (fun _=>fEq))).1,(FR.out _ (A6.out.trans HA.out.1 (fun _=>fEq))).2,A6.out.trans HA.out.1 (fun _=>fEq)⟩,?_⟩
  iterate 3
   refine plan_look rfl rfl (fun w0 hS=>(by clear hS;go_simp;try rfl)) ?_;simp only[Act.put,nAq,nBq,nCq]
  refine AW rfl ?_
  go_wp2_with (first
   | fail
   | ((with_reducible show zOq (.store 86 _ _));refine AI rfl 86 _ _ rfl w6.heap.size 0 X rfl rfl HA.out.2.2.1 (by rw[B8,HA.out.2.1.size]) (by rw[HA.out.2.1.size,HZ.out.2];omega) HA.out.2.1.one X (by rw[AT _ _ (by rw[Array.length_toList,Array.length_toList,HA.out.2.1.size,HZ.out.2])]) ?_))
  have HB:=Lib.hid ((A6.out.trans HA.out.1 (fun _=>fEq)).setRow (g:=w6.heap.size) (.inr A6.out.size) X);refine⟨⟨(FR.out _ HB.out).1,(FR.out _ HB.out).2,HB.out⟩,?_⟩
  iterate 1
   refine plan_look rfl rfl (fun w0 hS=>(by clear hS;go_simp;try rfl)) ?_;simp only[Act.put,nAq,nBq,nCq]
  refine AZ ?_;simp only[List.drop_succ_cons,List.drop_zero];refine NoPanic.normal ?_;go_wp2;go_meet;exact⟨w6.heap.size,X,v,rfl,rfl,AK HA.out.2.2.1 X,HA.out.2.1.Ew (fun j hj e=>by have h1:=HA.out.2.2.2 j hj;have h2:=A6.out.size;simp at h1 h2;omega),HA.out.1.setRow (.inr (Nat.le_refl _)) _⟩
 obtain⟨b6,X6,v6,rfl,rfl,r6,P6,a6⟩:=hcut;have A7:=Lib.hid (A6.out.trans a6 (fun _=>fEq));have H6:=(hIq r6 P6)
 clear a6 r6 P6;go_wp2_with fail;go_cut [16,17] (fun sp se wx=>∃bp X v,sp=.pointer (some ⟨bp,0,none⟩)∧se=.int .i64 ne∧wx.heap[bp]?=some (.cells X 86 (0,0))∧GA wx X v np∧AN wc wx)
 case first =>
  refine Fu 11 (fun wz=>wz.heap[c]?=some (.cells SC 63 (0,0))∧wz.heap[ba]?=some (.cells A 49 (0,0))∧AN w1 wz) 14 [(0,false),(1,false),(2,false),(3,false),(4,false),(5,false),(6,false),(7,true),(8,false),(9,false),(10,false)] [(12,true),(13,false)] (by kernel_rfl) (by kernel_rfl) ⟨AM (FR.out _ A7.out).1,AM (FR.out _ A7.out).2,(A7.out).drew⟩ ?_
  iterate 3
   refine CR rfl rfl (fun w0 hS=>(by clear hS;go_simp;try rfl)) ?_;simp only[Act.put,nAq,nBq,nCq]
  refine CR (v:=.pointer (some ⟨b,0,none⟩)) rfl rfl (fun w0 hS=>(by have c1:=AH hS.1 HSC.out.2.1;clear hS;go_simp;try rfl)) ?_;simp only[Act.put,nAq,nBq,nCq]
  iterate 2
   refine CR rfl rfl (fun w0 hS=>(by clear hS;go_simp;try rfl)) ?_;simp only[Act.put,nAq,nBq,nCq]
  refine CR (v:=.int .i64 nn) rfl rfl (fun w0 hS=>(by have c1:=AH hS.2.1 HX.out.2.2.2;clear hS;go_simp;try rfl)) ?_;simp only[Act.put,nAq,nBq,nCq];refine OA rfl rfl ?_ ?_
  · go_wp2_with fail
    refine(HC6.out _ A7.out.drew).mono ?_;rintro e w8 ⟨⟨X,v,rfl,hX,hO⟩,a⟩;have HA:=(hIq ((A7.out.drew).trans a (fun _=>fEq)) (aIq hX ((Ch.refl (fun _=>False) wc).drew.trans a (fun _=>fEq))))
    clear a hX hO;dsimp only;go_step;refine wpList_nil ?_;change _∧_;refine⟨⟨(FR.out _ HA.out.1).1,(FR.out _ HA.out.1).2,HA.out.1⟩,?_⟩
    iterate 3
     refine CR rfl rfl (fun w0 hS=>(by clear hS;go_simp;try rfl)) ?_;simp only[Act.put,nAq,nBq,nCq]
    refine KA rfl ?_
    go_wp2_with (first
     | fail
     | ((with_reducible show zOq (.alloc 86));refine AO rfl 86 rfl (.agg Z) HZ.out.1 ?_;dsimp only[Value.cells];try simp only[World.size_alloc]))
    refine⟨⟨(FR.out _ (HA.out.1.alloc _)).1,(FR.out _ (HA.out.1.alloc _)).2,HA.out.1.alloc _⟩,?_⟩;refine AW rfl ?_
    go_wp2_with (first
     | fail
     | ((with_reducible show zOq (.store 86 _ _));refine AI rfl 86 _ _ rfl w8.heap.size 0 X rfl rfl (heap_alloc_new _ _) (by rw[B8,HA.out.2.1.size]) (by rw[HA.out.2.1.size,HZ.out.2];omega) HA.out.2.1.one X (by rw[AT _ _ (by rw[Array.length_toList,Array.length_toList,HA.out.2.1.size,HZ.out.2])]) ?_))
    have HB:=Lib.hid ((HA.out.1.alloc (.cells Z 86)).setRow (g:=w8.heap.size) (.inr HA.out.1.size) X);refine⟨⟨(FR.out _ HB.out).1,(FR.out _ HB.out).2,HB.out⟩,?_⟩
    iterate 1
     refine plan_look rfl rfl (fun w0 hS=>(by clear hS;go_simp;try rfl)) ?_;simp only[Act.put,nAq,nBq,nCq]
    refine AZ ?_;simp only[List.drop_succ_cons,List.drop_zero];refine NoPanic.normal ?_;go_wp2;go_meet;exact⟨w8.heap.size,X,v,rfl,rfl,AK (heap_alloc_new _ _) X,HA.out.2.1.adds (((Ch.refl (fun _=>False) _).alloc _).setRow (.inr (Nat.le_refl _)) _),(HA.out.2.2.alloc _).setRow (.inr HA.out.2.2.size) _⟩
  go_wp2_with (first
   | fail
   | ((with_reducible show zOq (.alloc 86));refine AO rfl 86 rfl (.agg Z) HZ.out.1 ?_;dsimp only[Value.cells];try simp only[World.size_alloc]))
  refine⟨⟨(FR.out _ (A7.out.drew.alloc _)).1,(FR.out _ (A7.out.drew.alloc _)).2,A7.out.drew.alloc _⟩,?_⟩;refine AW rfl ?_;go_wp2_with fail;refine(HC6.out _ (A7.out.drew.alloc _)).mono ?_;rintro e w8 ⟨⟨X,v,rfl,hX,hO⟩,a⟩;have HA:=(hIq (((Ch.refl (fun _=>False) wc).drew.alloc (.cells Z 86)).trans a (fun _=>fEq)) (aIq hX (aIq (a.row (heap_alloc_new wc.drew (.cells Z 86)) id) hO)))
  clear a hX hO;dsimp only;go_step;refine wpList_nil ?_;change _∧_;refine⟨⟨(FR.out _ (A7.out.trans HA.out.1 (fun _=>fEq))).1,(FR.out _ (A7.out.trans HA.out.1 (fun _=>fEq))).2,A7.out.trans HA.out.1 (fun _=>fEq)⟩,?_⟩
  iterate 3
   refine plan_look rfl rfl (fun w0 hS=>(by clear hS;go_simp;try rfl)) ?_;simp only[Act.put,nAq,nBq,nCq]
  refine AW rfl ?_
  go_wp2_with (first
   | fail
   | ((with_reducible show zOq (.store 86 _ _));refine AI rfl 86 _ _ rfl wc.heap.size 0 X rfl rfl HA.out.2.2.1 (by rw[B8,HA.out.2.1.size]) (by rw[HA.out.2.1.size,HZ.out.2];omega) HA.out.2.1.one X (by rw[AT _ _ (by rw[Array.length_toList,Array.length_toList,HA.out.2.1.size,HZ.out.2])]) ?_))
  have HB:=Lib.hid ((A7.out.trans HA.out.1 (fun _=>fEq)).setRow (g:=wc.heap.size) (.inr A7.out.size) X);refine⟨⟨(FR.out _ HB.out).1,(FR.out _ HB.out).2,HB.out⟩,?_⟩
  iterate 1
   refine plan_look rfl rfl (fun w0 hS=>(by clear hS;go_simp;try rfl)) ?_;simp only[Act.put,nAq,nBq,nCq]
  refine AZ ?_;simp only[List.drop_succ_cons,List.drop_zero];refine NoPanic.normal ?_;go_wp2;go_meet;exact⟨wc.heap.size,X,v,rfl,rfl,AK HA.out.2.2.1 X,HA.out.2.1.Ew (fun j hj e=>by have h1:=HA.out.2.2.2 j hj;have h2:=A7.out.size;simp at h1 h2;omega),HA.out.1.setRow (.inr (Nat.le_refl _)) _⟩
 obtain⟨b7,X7,v7,rfl,rfl,r7,P7,a7⟩:=hcut;have A8:=Lib.hid (A7.out.trans a7 (fun _=>fEq));have H7:=(hIq (a7.row H6.out.1 id) (aIq (H6.out.2.adds a7) (aIq r7 P7)))
 clear a7 r7 P7;go_wp2_with fail;refine AP (fun wz=>wz.heap[c]?=some (.cells SC 63 (0,0))∧wz.heap[ba]?=some (.cells A 49 (0,0))∧AN w1 wz) 15 [(0,false),(1,false),(2,false),(3,false),(4,false),(5,false),(6,false),(7,false),(8,false),(9,true),(10,false),(11,false),(12,false),(13,false),(14,false)] (by kernel_rfl) (by kernel_rfl) ?_ ?_
 · exact⟨AM (FR.out _ A8.out).1,AM (FR.out _ A8.out).2,(A8.out).drew⟩
 iterate 3
  refine plan_look rfl rfl (fun w0 hS=>(by clear hS;go_simp;try rfl)) ?_;simp only[Act.put,nAq,nBq,nCq]
 refine plan_look (v:=.pointer (some ⟨s,0,none⟩)) rfl rfl (fun w0 hS=>(by have c1:=AH hS.1 HSC.out.1;clear hS;go_simp;try rfl)) ?_;simp only[Act.put,nAq,nBq,nCq]
 iterate 2
  refine plan_look rfl rfl (fun w0 hS=>(by clear hS;go_simp;try rfl)) ?_;simp only[Act.put,nAq,nBq,nCq]
 refine Aa (cur:=A) (t:=49) (fr:=(0,0)) rfl rfl 47 _ rfl ba 1 32 rfl (fun w0 hS=>hS.2.1) Tryz.underlying47 rfl Ab (by rw[HX.out.1];omega) K HX.out.2.1 ?_;simp only[Act.put,nAq,nBq,nCq]
 iterate 1
  refine plan_look rfl rfl (fun w0 hS=>(by clear hS;go_simp;try rfl)) ?_;simp only[Act.put,nAq,nBq,nCq]
 refine Aa (cur:=A) (t:=49) (fr:=(0,0)) rfl rfl 47 _ rfl ba 33 32 rfl (fun w0 hS=>hS.2.1) Tryz.underlying47 rfl Ab (by rw[HX.out.1];omega) J HX.out.2.2.1 ?_;simp only[Act.put,nAq,nBq,nCq];refine AW rfl ?_;go_wp2_with fail;refine(HC7.out _ A8.out.drew).mono ?_;rintro e w9 ⟨rfl,a⟩;have A9:=Lib.hid ((A8.out.drew).trans a (fun _=>fEq));have bb:AN _ w9:=((Ch.refl (fun _=>False) _).drew).trans a (fun _=>fEq);have H9:=(hIq (bb.row H7.out.1 id) (aIq (H7.out.2.1.adds bb) (aIq (bb.row H7.out.2.2.1 id) (H7.out.2.2.2.adds bb))))
 clear bb;clear a;dsimp only;go_step;refine wpList_nil ?_;change _∧_;refine⟨⟨(FR.out _ A9.out).1,(FR.out _ A9.out).2,A9.out⟩,?_⟩
 iterate 5
  refine plan_look rfl rfl (fun w0 hS=>(by clear hS;go_simp;try rfl)) ?_;simp only[Act.put,nAq,nBq,nCq]
 refine AZ ?_;simp only[List.drop_succ_cons,List.drop_zero];refine NoPanic.normal ?_;go_wp2_with fail;refine AP (fun wz=>wz.heap[c]?=some (.cells SC 63 (0,0))∧wz.heap[ba]?=some (.cells A 49 (0,0))∧AN w1 wz) 15 [(0,false),(1,false),(2,false),(3,false),(4,false),(5,false),(6,false),(7,false),(8,false),(9,true),(10,false),(11,false),(12,false),(13,false),(14,false)] (by kernel_rfl) (by kernel_rfl) ?_ ?_
 · exact⟨AM (FR.out _ A9.out).1,AM (FR.out _ A9.out).2,(A9.out).drew⟩
 iterate 3
  refine plan_look rfl rfl (fun w0 hS=>(by clear hS;go_simp;try rfl)) ?_;simp only[Act.put,nAq,nBq,nCq]
 refine plan_look (v:=.pointer (some ⟨b,0,none⟩)) rfl rfl (fun w0 hS=>(by have c1:=AH hS.1 HSC.out.2.1;clear hS;go_simp;try rfl)) ?_;simp only[Act.put,nAq,nBq,nCq]
 iterate 2
  refine plan_look rfl rfl (fun w0 hS=>(by clear hS;go_simp;try rfl)) ?_;simp only[Act.put,nAq,nBq,nCq]
 refine Aa (cur:=A) (t:=49) (fr:=(0,0)) rfl rfl 47 _ rfl ba 1 32 rfl (fun w0 hS=>hS.2.1) Tryz.underlying47 rfl Ab (by rw[HX.out.1];omega) K HX.out.2.1 ?_;simp only[Act.put,nAq,nBq,nCq]
 iterate 1
  refine plan_look rfl rfl (fun w0 hS=>(by clear hS;go_simp;try rfl)) ?_;simp only[Act.put,nAq,nBq,nCq]
 refine Aa (cur:=A) (t:=49) (fr:=(0,0)) rfl rfl 47 _ rfl ba 33 32 rfl (fun w0 hS=>hS.2.1) Tryz.underlying47 rfl Ab (by rw[HX.out.1];omega) J HX.out.2.2.1 ?_;simp only[Act.put,nAq,nBq,nCq];refine AW rfl ?_;go_wp2_with fail;refine(HC8.out _ A9.out.drew).mono ?_;rintro e w10 ⟨rfl,a⟩;have A10:=Lib.hid ((A9.out.drew).trans a (fun _=>fEq));have bb:AN _ w10:=((Ch.refl (fun _=>False) _).drew).trans a (fun _=>fEq);have H10:=(hIq (bb.row H9.out.1 id) (aIq (H9.out.2.1.adds bb) (aIq (bb.row H9.out.2.2.1 id) (H9.out.2.2.2.adds bb))))
 clear bb;clear a;dsimp only;go_step;refine wpList_nil ?_;change _∧_;refine⟨⟨(FR.out _ A10.out).1,(FR.out _ A10.out).2,A10.out⟩,?_⟩
 iterate 5
  refine plan_look rfl rfl (fun w0 hS=>(by clear hS;go_simp;try rfl)) ?_;simp only[Act.put,nAq,nBq,nCq]
 refine AZ ?_;simp only[List.drop_succ_cons,List.drop_zero];refine NoPanic.normal ?_;obtain⟨r6,P6,r7,P7⟩:=H10.out;obtain⟨o6,k6,e6,_⟩:=P6.bytes.form;obtain⟨o7,k7,e7,_⟩:=P7.bytes.form
 have hl1:np.1.length=32:=by
  have h1:=congrArg Array.size P6.key;rw[AU] at h1;have h2:=P6.size;simp only[Array.size_extract] at h1;omega
 have heq:=fun w0=>IH 47 Tryz.underlying47 np.1 np.1 hl1 hl1 w0
 have hsb:=FY P6.bytes P7.bytes;have c6:=AH r6 P6.val;have c7:=AH r7 P7.val;rw[e6,e7] at hsb;rw[e6] at c6;rw[e7] at c7;rw[decide_eq_true (rfl:np.2=np.2)] at hsb;obtain⟨N6,hN6⟩:∃N,N=AS np.1:=⟨_,rfl⟩
 rw[←hN6] at heq;rw[decide_eq_true (rfl:np.1=np.1)] at heq;have HP:=(hIq r6 (aIq P6.size (aIq (P6.key.trans hN6.symm) (aIq r7 (aIq P7.size (P7.key.trans hN6.symm))))))
 have HSB:=Lib.hid hsb;clear r6 P6 r7 P7 e6 e7 hl1 hsb hN6
 go_wp2_with (first
  | fail
  | ((with_reducible show zOq (.load 47 _));refine Bg (by first|rfl|(simp[Region.wanted];done)) 47 _ rfl b6 0 rfl HP.out.1 Tryz.underlying47 rfl Ab (by rw[HP.out.2.1];omega) N6 HP.out.2.2.1 ?_)
  | ((with_reducible show zOq (.load 47 _));refine Bg (by first|rfl|(simp[Region.wanted];done)) 47 _ rfl b7 0 rfl HP.out.2.2.2.1 Tryz.underlying47 rfl Ab (by rw[HP.out.2.2.2.2.1];omega) N6 HP.out.2.2.2.2.2 ?_))
 refine HSB.out.mono ?_;rintro e w11 ⟨rfl,rfl⟩;go_wp2;go_ret;exact⟨rfl,HA1.out.1.trans A10.out (fun _=>fEq)⟩
end
end Go.Proofs.YtngbdbpofifimaaGreat.Store
namespace Go.Proofs.YtngbdbpofifimaaGreat.Store
open Go.RowKit Go.Sort Go.Proofs.YtngbdbpofifimaaGreat.ShaW Go.Proofs.YtngbdbpofifimaaGreat.Path Go.Proofs.YtngbdbpofifimaaGreat.Bk
section
variable {w w' : World} {F : Nat→Prop}
theorem pairs_out {ao:Option Addr} {n cap:Nat} {l:List Pr} (h:Ba w ao l) (hc:Ch F w w') (hb:∀j,(Value.slice ao n cap).ownBlock=some j→¬F j) (hv:∀x∈l,∀j,x.vv.ownBlock=some j→¬F j):Ba w' ao l:=by
 refine⟨fun x hx=>?_,fun i x hi=>?_⟩
 · obtain⟨p,q,r⟩:=h.1 x hx
   exact⟨p,q.Ae hc (hv x hx),fun h0 k hk=>Nat.lt_of_lt_of_le (r h0 k hk) hc.size⟩
 obtain⟨g,off,rfl,hp⟩:=h.2 i x hi;exact⟨g,off,rfl,hp.Ae hc (hb g rfl)⟩
theorem SeqIs.out {base:Nat} {E:Av} {q:Value} (h:SeqIs base w E q) (hc:Ch F w w') (hF:∀k,F k→k<base):SeqIs base w' E q:=by
 obtain⟨b,v,out,rfl,hb,hr,ht,he,h1,h2⟩:=h;have nf:∀k,base≤k→¬F k:=fun k hk hf=>by have:=hF k hf;omega
 have hrow:Ch F w w'→RowP w' base v out:=fun c=>c.owns ht.row (fun k hk=>nf k (ht.row.lt k hk).1)
 refine⟨b,v,out,rfl,hb,hc.row hr (nf b hb),⟨hrow hc,fun x hx=>?_,ht.apart,fun x hx=>(ht.whole x hx).Ae hc (fun k hk=>nf k ((ht.vals x hx).2.2 k hk).1)⟩,he,h1,h2⟩;obtain⟨p,q,r⟩:=ht.vals x hx;exact⟨p,q.Ae hc (fun k hk=>nf k (r k hk).1),fun k hk=>⟨(r k hk).1,Nat.lt_of_lt_of_le (r k hk).2.1 hc.size,(r k hk).2.2⟩⟩
theorem SeqIs.adds {base:Nat} {E:Av} {q:Value} (h:SeqIs base w E q) (a:AN w w'):SeqIs base w' E q:=h.out a (fun _=>fEq)
end
end Go.Proofs.YtngbdbpofifimaaGreat.Store
namespace Go.Proofs.YtngbdbpofifimaaGreat
open Go.Shelf
def VC:Go.Shelf.Ren:=⟨fun|125=>253|128=>285|129=>286|189=>223|191=>152|215=>326|216=>294|257=>255|294=>288|295=>289|296=>290|297=>291|298=>292|299=>293|300=>295|301=>296|328=>323|329=>310|330=>311|331=>324|332=>325|343=>345|n=>n,fun|0=>0|3=>3|4=>4|5=>5|9=>9|28=>61|46=>216|51=>332|53=>339|131=>302|182=>367|183=>368|218=>387|222=>391|228=>408|229=>226|n=>n,fun|n=>n⟩
end Go.Proofs.YtngbdbpofifimaaGreat
namespace Go.Proofs.YtngbdbpofifimaaGreat.Store
open Go.RowKit Go.Proofs.YtngbdbpofifimaaGreat.ShaW Go.Proofs.YtngbdbpofifimaaGreat.Path
structure Wk where
 todo:List Int
 cnt:Int→Nat
def Wk.start:Wk:=⟨[],fun _=>0⟩
def Wk.want (k:Wk) (h:Int):Wk:=if h=0 then k else ⟨if k.cnt h=0 then k.todo ++ [h] else k.todo,fun x=>k.cnt x+(if x=h then 1 else 0)⟩
inductive Fro (σ:AG Nd) (R:List Int):Int→Prop
 | root {h:Int}:h∈R→h≠0→Fro σ R h
 | left {h:Int}:Fro σ R h→(nd σ h).left≠0→Fro σ R (nd σ h).left
 | right {h:Int}:Fro σ R h→(nd σ h).right≠0→Fro σ R (nd σ h).right
structure XD (σ:AG Nd) (R:List Int) (i:Nat) (k:Wk):Prop where
 nodup:k.todo.Nodup
 mem:∀h,h∈k.todo↔0<k.cnt h
 cnt:∀h,h≠0→k.cnt h=R.count h+((k.todo.take i).map fun x=>refs (nd σ x) h).sum
 zero:k.cnt 0=0
 there:∀h∈k.todo,has σ h=true
 fro:∀h∈k.todo,Fro σ R h
section
variable {σ : AG Nd} {R : List Int} {i : Nat} {k : Wk}
structure XN (σ:AG Nd) (R:List Int) (k:Wk):Prop where
 nodup:k.todo.Nodup
 mem:∀h,h∈k.todo↔0<k.cnt h
 zero:k.cnt 0=0
 there:∀h∈k.todo,has σ h=true
 fro:∀h∈k.todo,Fro σ R h
end
end Go.Proofs.YtngbdbpofifimaaGreat.Store
namespace Go.Proofs.YtngbdbpofifimaaGreat
open Go.RowKit Go.Maps
namespace AG
end AG
abbrev ky (n:Int):Lit:=.int .i64 n
abbrev num (n:Int):DataW Value:=.lit (.int .i64 n)
def Wc (v:Value):Option (DataW Value×List MemPlace):=some (.held v,[])
@[reducible] def XM (a b c:Int):Value:=.agg #[.int .i64 a,.int .i64 b,.int .i64 c]
def We (v:Value):Prop:=∃a b c,v=XM a b c
structure Xz (σ:AG) (Dc Dt:DataW Value) (k:Nat):Prop where
 cnt:∀n:Int,Dc.atKey (ky n) (num 0)=num (σ.count n)
 has:∀n:Int,Maps.has Dc (ky n)=(σ.get? n).isSome
 size:Maps.size Dc=σ.used
 thing:∀(n:Int) s z,σ.get? n=some s→Dt.atKey (ky n) z=.held s.1
 few:∀(n:Int) s,σ.get? n=some s→s.2≤k
 acts:∀(n:Int) s,σ.get? n=some s→We s.1
end Go.Proofs.YtngbdbpofifimaaGreat
namespace Go.Proofs.YtngbdbpofifimaaGreat.Store
open Go.RowKit Go.Proofs.YtngbdbpofifimaaGreat.ShaW Go.Proofs.YtngbdbpofifimaaGreat.Path
open Go.Maps (Keyed keyOf_int_mk)
noncomputable abbrev Wl:Value→Option (DataW Value×List MemPlace):=plainElem Tryz.prog 3
structure WN (w:World) (b n:Nat) (f:Int→Nat) (sz:Nat):Prop where
 ex:∃D,w.ownsMap Tryz.prog 3 Wl b n D∧Maps.size D=sz∧∀x:Int,D.atKey (ky x) (num 0)=num (f x)∧Maps.has D (ky x)=decide (0<f x)
def Xg (f:Int→Nat) (x:Int):Int→Nat:=fun y=>f y+(if y=x then 1 else 0)
def XP (l:List Int):List Value:=l.map (Value.int .i64)
structure Xy (w0 w:World) (b5 b6 m n:Nat) (k:Wk):Prop where
 r5:w.heap[b5]?=some (.cells #[.map (some m)] 241 (0,0))
 r6:∃ao cap,w.heap[b6]?=some (.cells #[.slice ao k.todo.length cap] 61 (0,0))∧w.ownsRow w0.heap.size 3 1 (.slice ao k.todo.length cap) k.todo.length (XP k.todo)
 cnt:WN w m n k.cnt k.todo.length
 adds:Ch (fun _=>False) w0 w
 m0:w0.heap.size≤m
 b60:w0.heap.size≤b6
end Go.Proofs.YtngbdbpofifimaaGreat.Store
namespace Go.Proofs.YtngbdbpofifimaaGreat.Store
open Go.RowKit Go.Proofs.YtngbdbpofifimaaGreat.ShaW Go.Proofs.YtngbdbpofifimaaGreat.Path
def V8 (w:World) (ao:Option Addr) (l:List Int):Prop:=∀i x,l[i]?=some x→∃g off,ao=some ⟨g,off,none⟩∧w.cell? ⟨g,off+i,none⟩=some (.int .i64 x)
def WZ (σ:AG Nd):List Int→Int
 | []=>0
 | h::R=>if AX σ h≠0 then AX σ h else WZ σ R
def chk (σ:AG Nd) (R:List Int):Int:=if 64<R.length then 4 else WZ σ R

def WB (σ:AG Nd) (f:Int→Nat) (l:List Nat):List (Int×Int×Int):=l.filterMap fun h:Nat=>if ((σ.count (h:Int):Nat):Int)=(f (h:Int):Nat) then none else some ((h:Int),((f (h:Int):Nat):Int),((σ.count (h:Int):Nat):Int))
def Xe (σ:AG Nd) (f:Int→Nat):List (Int×Int×Int):=WB σ f (Gk σ)
def fdL (l:List (Int×Int×Int)):List Value:=l.flatMap fun x => [.int .i64 x.1,.int .i64 x.2.1,.int .i64 x.2.2]

end Go.Proofs.YtngbdbpofifimaaGreat.Store
namespace Go.Proofs.YtngbdbpofifimaaGreat.Store
open Go.RowKit Go.Sort Go.Proofs.YtngbdbpofifimaaGreat.ShaW Go.Proofs.YtngbdbpofifimaaGreat.Path
def Xh (f:Int→Nat) (l:List Nat):List Int:=(l.filter fun h:Nat=>decide (f (h:Int)=0)).map fun h:Nat=>(h:Int)

def leI (x y:Int):Bool:=decide (x≤y)
def Xa (D0:DataW Value) (left:Lit→Bool) (ss:List Int):Prop:=ss.Nodup∧∀x,x∈ss↔(Maps.has D0 (ky x)=true∧left (ky x)=false)

def Xc (a:Option Addr) (cap i:Nat):Option Addr:=if cap=i then a else a.map (·.add (i*1))
end Go.Proofs.YtngbdbpofifimaaGreat.Store
namespace Go.Proofs.YtngbdbpofifimaaGreat.Store
open Go.RowKit Go.Sort Go.Proofs.YtngbdbpofifimaaGreat.ShaW Go.Proofs.YtngbdbpofifimaaGreat.Path Go.Proofs.YtngbdbpofifimaaGreat.Tag
section
variable {w : World}
def W9 (w:World) (bs:List UInt8) (e:Ending) (w':World):Prop:=∃q,e=.returned q∧w'.ownsRow w.heap.size 5 1 q bs.length (bs.map bv)∧AN w w'
end
end Go.Proofs.YtngbdbpofifimaaGreat.Store
