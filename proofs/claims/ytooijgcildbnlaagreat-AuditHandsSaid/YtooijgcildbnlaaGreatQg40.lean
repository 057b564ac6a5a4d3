/- Laws of the layers below. -/
import Derived.Test.YtooijgcildbnlaaGreatQg39
set_option maxHeartbeats 3200000
set_option maxRecDepth 100000
set_option linter.unusedVariables false
namespace Go.Proofs.YtooijgcildbnlaaGreat.Store
open Go.RowKit Go.Sort Go.Proofs.YtooijgcildbnlaaGreat.ShaW Go.Proofs.YtooijgcildbnlaaGreat.Path Go.Proofs.YtooijgcildbnlaaGreat.CI
section
variable {w w' : World} {s : Nat} {F : Nat→Prop} {σ : AD Nd}
theorem Pu (h:At w s F σ) {n:Int} (hk:(nd σ n).kind=0):Calls Tryz.prog 215 #[.pointer (some ⟨s,0,none⟩),.int .i64 n] w fun e w'=>e=.returned (.agg CV)∧Adds w w':=by
 have hok:=h.ok n;have hg:=fun w1 (hc:Adds w w1)=>CT (h.adds hc) n
 obtain⟨N,Z,hN,hn,hz⟩:=told h n;rw[←hN] at hg;have k0:N[32]?=some (.int .u8 0):=by rw[hN,Nd.Av hok,hk];rfl
 obtain⟨Y,hY⟩:∃Y,Y=CV:=⟨_,rfl⟩
 have hyf:=Cy;have hy1:=LW;have hYs:CV.size=129:=rfl;rw[←hY] at hyf hy1 hYs ⊢;have HG:=Lib.hid hg;have HN:=Lib.hid hn;have HZ:=Lib.hid hz;have HY:=(hIq hyf (aIq hYs hy1))
 clear hok hg hN hn hz h hY hyf hYs hy1 hk;go_enter Tryz.func215,Tryz.ntmps215;go_wp2_with (first|fail|((with_reducible show zOq (.alloc 115));refine AH rfl 115 rfl (.agg Y) HY.out.1.1 ?_;dsimp only[Value.cells];try simp only[World.size_alloc]));refine(HG.out _ ((Ch.refl _ _).alloc _)).mono ?_;rintro e w1 ⟨rfl,hc1⟩;have hy1:=hc1.row (heap_alloc_new w (.cells Y 115)) id;have c0:=AG (AF (heap_alloc_new w1 (.cells Z 159)) N) k0;have C1:=Lib.hid (((Ch.refl (fun _=>False) w).alloc (.cells Y 115)).trans hc1 (fun _=>fEq));have hlt:=Ad hy1;have HY1:=Lib.hid hy1;clear hc1 hy1 k0
 go_wp2_with (first
  | fail
  | ((with_reducible show zOq (.alloc 159));refine AH rfl 159 rfl (.agg Z) HZ.out.1 ?_;dsimp only[Value.cells];try simp only[World.size_alloc])
  | ((with_reducible show zOq (.store 159 (.tmp 5) _));go_must (refine AE rfl 159 _ _ rfl w1.heap.size 0 N rfl rfl (heap_alloc_new _ _) (by rw[BX,HN.out.1]) (by rw[HN.out.1,HZ.out.2];omega) HN.out.2 N (by rw[AI _ _ (by rw[Array.length_toList,Array.length_toList,HN.out.1,HZ.out.2])]) ?_))
  | ((with_reducible show zOq (.build 115 _));refine BP rfl 115 rfl Y HY.out.1.2.2 ?_)
  | ((with_reducible show zOq (.store 115 _ _));refine AE rfl 115 _ _ rfl w.heap.size 0 Y rfl rfl (row_setRow (AM HY1.out _) (by omega) _) (by rw[HY.out.1.2.1,HY.out.2.1]) (by omega) HY.out.2.2 Y (by rw[AI _ _ rfl]) ?_))
 have hws:=C1.out.size;exact AN (p:=4) rfl rfl (AF (row_setRow (AM HY1.out _) (by omega) _) _) Tryz.underlying115 rfl (by rw[HY.out.1.2.1,HY.out.2.1]) rfl ⟨rfl,((C1.out.alloc _).setRow (.inr hws) _).setRow (.inr (Nat.le_refl _)) _⟩
theorem QJ (h:At w s F σ) {n:Int} (hk:(nd σ n).kind=1):Calls Tryz.prog 215 #[.pointer (some ⟨s,0,none⟩),.int .i64 n] w fun e w'=>e=.returned (.agg (Dr 1 (nd σ n).key (nd σ n).hash Nd.z32 Nd.z32))∧Adds w w':=by
 have hok:=h.ok n;have hg:=fun w1 (hc:Adds w w1)=>CT (h.adds hc) n
 obtain⟨N,Z,hN,hn,hz⟩:=told h n;rw[←hN] at hg;have k0:N[32]?=some (.int .u8 1):=by rw[hN,Nd.Av hok,hk];rfl
 have kk:N.extract 34 (34+32)=AJ (nd σ n).key:=by rw[hN];exact Nd.Bh hok
 have kh:N.extract 67 (67+32)=AJ (nd σ n).hash:=by rw[hN];exact Nd.Vj hok
 obtain⟨Y,hY⟩:∃Y,Y=CV:=⟨_,rfl⟩
 have hyf:=Cy;have hYs:CV.size=129:=rfl;rw[←hY] at hyf hYs;obtain⟨O,hO⟩:∃O,O=Dr 1 (nd σ n).key (nd σ n).hash Nd.z32 Nd.z32:=⟨_,rfl⟩
 have hOs:O.size=129∧∀v∈O.toList,v.oneCell'=true:=by rw[hO];exact⟨Fw hok.key hok.hash rfl rfl,Gt _ _ _ _ _⟩
 have hbt:=GQ (nd σ n).key (nd σ n).hash hok.key hok.hash;obtain⟨K,hK⟩:∃K,K=AJ (nd σ n).key:=⟨_,rfl⟩
 obtain⟨D,hD⟩:∃D,D=AJ (nd σ n).hash:=⟨_,rfl⟩
 rw[←hK] at kk;rw[←hD] at kh;rw[←hO, ←hK, ←hD] at hbt;rw[←hO];have HG:=Lib.hid hg;have HK:=(hIq kk kh)
 have HN:=Lib.hid hn;have HZ:=Lib.hid hz;have HY:=(hIq hyf hYs)
 have HO:=(hIq hOs hbt)
 clear hok hg hN hn hz h hY hyf hYs hk hOs hbt hO hK hD kk kh;go_enter Tryz.func215,Tryz.ntmps215;go_wp2_with (first|fail|((with_reducible show zOq (.alloc 115));refine AH rfl 115 rfl (.agg Y) HY.out.1.1 ?_;dsimp only[Value.cells];try simp only[World.size_alloc]));refine(HG.out _ ((Ch.refl _ _).alloc _)).mono ?_;rintro e w1 ⟨rfl,hc1⟩;have hy1:=hc1.row (heap_alloc_new w (.cells Y 115)) id;have c0:=AG (AF (heap_alloc_new w1 (.cells Z 159)) N) k0;have C1:=Lib.hid (((Ch.refl (fun _=>False) w).alloc (.cells Y 115)).trans hc1 (fun _=>fEq));have hlt:=Ad hy1;have HY1:=Lib.hid hy1;clear hc1 hy1 k0
 go_wp2_with (first
  | fail
  | ((with_reducible show zOq (.alloc 159));refine AH rfl 159 rfl (.agg Z) HZ.out.1 ?_;dsimp only[Value.cells];try simp only[World.size_alloc])
  | ((with_reducible show zOq (.store 159 (.tmp 5) _));go_must (refine AE rfl 159 _ _ rfl w1.heap.size 0 N rfl rfl (heap_alloc_new _ _) (by rw[BX,HN.out.1]) (by rw[HN.out.1,HZ.out.2];omega) HN.out.2 N (by rw[AI _ _ (by rw[Array.length_toList,Array.length_toList,HN.out.1,HZ.out.2])]) ?_))
  | ((with_reducible show zOq (.load 24 _));refine AK rfl 24 _ rfl w1.heap.size 34 rfl (AF (heap_alloc_new _ _) _) Tryz.underlying24 rfl Au (by rw[HN.out.1];omega) K HK.out.1 ?_)
  | ((with_reducible show zOq (.load 85 _));refine AK rfl 85 _ rfl w1.heap.size 67 rfl (AF (heap_alloc_new _ _) _) Tryz.underlying85 rfl BW (by rw[HN.out.1];omega) D HK.out.2 ?_)
  | ((with_reducible show zOq (.build 115 _));refine Cd rfl 115 0 1 2 _ _ _ rfl (.int .u8 1) (.agg K) (.agg D) rfl rfl rfl O HO.out.2 ?_)
  | ((with_reducible show zOq (.store 115 _ _));refine AE rfl 115 _ _ rfl w.heap.size 0 O rfl rfl (row_setRow (AM HY1.out _) (by omega) _) (by rw[HY.out.1.2.1,HO.out.1.1]) (by rw[HO.out.1.1,HY.out.2];omega) HO.out.1.2 O (by rw[AI _ _ (by rw[Array.length_toList,Array.length_toList,HO.out.1.1,HY.out.2])]) ?_))
 have hws:=C1.out.size;exact AN (p:=4) rfl rfl (AF (row_setRow (AM HY1.out _) (by omega) _) _) Tryz.underlying115 rfl (by rw[HY.out.1.2.1,HO.out.1.1]) rfl ⟨rfl,((C1.out.alloc _).setRow (.inr hws) _).setRow (.inr (Nat.le_refl _)) _⟩
theorem M8 (h:At w s F σ) {n:Int} (hk:(nd σ n).kind=2):Calls Tryz.prog 215 #[.pointer (some ⟨s,0,none⟩),.int .i64 n] w fun e w'=>e=.returned (.agg (Dr 2 Nd.z32 Nd.z32 (Al σ (nd σ n).left) (Al σ (nd σ n).right)))∧Adds w w':=by
 have hok:=h.ok n;have hg:=fun w1 (hc:Adds w w1)=>CT (h.adds hc) n
 obtain⟨N,Z,hN,hn,hz⟩:=told h n;rw[←hN] at hg;have k0:N[32]?=some (.int .u8 2):=by rw[hN,Nd.Av hok,hk];rfl
 have kl:N[99]?=some (.int .i64 (nd σ n).left):=by rw[hN,Nd.E6 hok]
 have kr:N[100]?=some (.int .i64 (nd σ n).right):=by rw[hN,Nd.EJ hok]
 obtain⟨lf,hlf⟩:∃lf,lf=(nd σ n).left:=⟨_,rfl⟩
 obtain⟨rg,hrg⟩:∃rg,rg=(nd σ n).right:=⟨_,rfl⟩
 rw[←hlf] at kl ⊢;rw[←hrg] at kr ⊢;obtain⟨Y,hY⟩:∃Y,Y=CV:=⟨_,rfl⟩
 have hyf:=Cy;have hYs:CV.size=129:=rfl;rw[←hY] at hyf hYs;obtain⟨O,hO⟩:∃O,O=Dr 2 Nd.z32 Nd.z32 (Al σ lf) (Al σ rg):=⟨_,rfl⟩
 have hOs:O.size=129∧∀v∈O.toList,v.oneCell'=true:=by rw[hO];exact⟨Fw rfl rfl (h.Ab _) (h.Ab _),Gt _ _ _ _ _⟩
 have hbt:=Fk (Al σ lf) (Al σ rg) (h.Ab _) (h.Ab _);obtain⟨A,hA⟩:∃A,A=AJ (Al σ lf):=⟨_,rfl⟩
 obtain⟨D,hD⟩:∃D,D=AJ (Al σ rg):=⟨_,rfl⟩
 rw[←hO, ←hA, ←hD] at hbt
 have hl:∀w1,Adds w w1→Calls Tryz.prog 100 #[.pointer (some ⟨s,0,none⟩),.int .i64 lf] w1 fun e w'=>e=.returned (.agg A)∧Adds w1 w':=fun w1 a=>by
  rw[hA];exact El (h.adds a) lf
 have hr:∀w1,Adds w w1→Calls Tryz.prog 100 #[.pointer (some ⟨s,0,none⟩),.int .i64 rg] w1 fun e w'=>e=.returned (.agg D)∧Adds w1 w':=fun w1 a=>by
  rw[hD];exact El (h.adds a) rg
 rw[←hO];have HG:=Lib.hid hg;have HN:=Lib.hid hn;have HK:=(hIq kl kr)
 have HZ:=Lib.hid hz;have HY:=(hIq hyf hYs)
 have HO:=(hIq hOs hbt)
 have HV:=(hIq hl hr)
 clear hok hg hN hn hz h hY hyf hYs hk hOs hbt hO hA hD kl kr hlf hrg hl hr;go_enter Tryz.func215,Tryz.ntmps215;go_wp2_with (first|fail|((with_reducible show zOq (.alloc 115));refine AH rfl 115 rfl (.agg Y) HY.out.1.1 ?_;dsimp only[Value.cells];try simp only[World.size_alloc]));refine(HG.out _ ((Ch.refl _ _).alloc _)).mono ?_;rintro e w1 ⟨rfl,hc1⟩;have hyr:=hc1.row (heap_alloc_new w (.cells Y 115)) id;have c0:=AG (AF (heap_alloc_new w1 (.cells Z 159)) N) k0;have C1:=Lib.hid (((Ch.refl (fun _=>False) w).alloc (.cells Y 115)).trans hc1 (fun _=>fEq));have hlt:=Ad hyr;have HY1:=Lib.hid hyr;clear hc1 hyr k0
 go_upto_region 6 with(first
  | fail
  | ((with_reducible show zOq (.alloc 159));refine AH rfl 159 rfl (.agg Z) HZ.out.1 ?_;dsimp only[Value.cells];try simp only[World.size_alloc])
  | ((with_reducible show zOq (.store 159 (.tmp 5) _));go_must (refine AE rfl 159 _ _ rfl w1.heap.size 0 N rfl rfl (heap_alloc_new _ _) (by rw[BX,HN.out.1]) (by rw[HN.out.1,HZ.out.2];omega) HN.out.2 N (by rw[AI _ _ (by rw[Array.length_toList,Array.length_toList,HN.out.1,HZ.out.2])]) ?_)))
 have r1:((w1.alloc (.cells Z 159)).setRow w1.heap.size N).heap[w1.heap.size]?=some (.cells N 159 (0,0)):=AF (heap_alloc_new _ _) _;have r2:((w1.alloc (.cells Z 159)).setRow w1.heap.size N).heap[w.heap.size]?=some (.cells Y 115 (0,0)):=row_setRow (AM HY1.out _) (by omega) _;have a2:Adds w ((w1.alloc (.cells Z 159)).setRow w1.heap.size N):=(C1.out.alloc _).setRow (.inr C1.out.size) _;obtain⟨w2,hw2⟩:∃w2,w2=(w1.alloc (.cells Z 159)).setRow w1.heap.size N:=⟨_,rfl⟩
 obtain⟨B,hB⟩:∃B,B=w1.heap.size:=⟨_,rfl⟩
 rw[←hw2] at r1 r2 a2 ⊢;rw[←hB] at r1 ⊢;have HW:=(hIq r1 (aIq r2 a2))
 clear r1 r2 a2 hw2 c0 hlt hB;refine AS (fun wz=>wz.heap[B]?=some (.cells N 159 (0,0))∧wz.heap[w.heap.size]?=some (.cells Y 115 (0,0))∧Adds w wz) 8 [(0,false),(1,false),(2,false),(4,false),(5,false),(6,false),(3,true),(7,true)] (by kernel_rfl) (by kernel_rfl) ?_ ?_
 · exact⟨AQ HW.out.1,AQ HW.out.2.1,HW.out.2.2.drew⟩
 iterate 2
  refine plan_look rfl rfl (fun w0 hS=>(by clear hS;go_simp;try rfl)) ?_;simp only[Act.put,nAq,nBq,nCq]
 refine plan_look (v:=.int .i64 lf) rfl rfl (fun w0 hS=>(by have c:=AG hS.1 HK.out.1;clear hS;go_simp;try rfl)) ?_;simp only[Act.put,nAq,nBq,nCq]
 iterate 2
  refine plan_look rfl rfl (fun w0 hS=>(by clear hS;go_simp;try rfl)) ?_;simp only[Act.put,nAq,nBq,nCq]
 refine plan_look (v:=.int .i64 rg) rfl rfl (fun w0 hS=>(by have c:=AG hS.1 HK.out.2;clear hS;go_simp;try rfl)) ?_;simp only[Act.put,nAq,nBq,nCq];refine Ah rfl ?_;go_wp2_with fail;refine(HV.out.1 _ HW.out.2.2.drew).mono ?_;rintro e wa ⟨rfl,aa⟩;have AA:=(hIq (aa.row (AQ HW.out.1) id) (aIq (aa.row (AQ HW.out.2.1) id) (HW.out.2.2.drew.trans aa (fun _=>fEq))))
 clear aa;dsimp only;go_step;refine wpList_nil ?_;change _∧_;refine⟨AA.out,?_⟩;refine Ah rfl ?_;go_wp2_with fail;refine(HV.out.2 _ AA.out.2.2).mono ?_;rintro e wb ⟨rfl,ab⟩;have AB:=(hIq (ab.row AA.out.1 id) (aIq (ab.row AA.out.2.1 id) (AA.out.2.2.trans ab (fun _=>fEq))))
 clear ab;dsimp only;go_step;refine wpList_nil ?_;change _∧_;refine⟨AB.out,?_⟩;refine Ae ?_;simp only[List.drop_succ_cons,List.drop_zero];have hlt:=Ad AB.out.2.1
 go_wp2_with (first
  | fail
  | ((with_reducible show zOq (.build 115 _));refine Cd rfl 115 0 3 4 _ _ _ rfl (.int .u8 2) (.agg A) (.agg D) rfl rfl rfl O HO.out.2 ?_)
  | ((with_reducible show zOq (.store 115 _ _));refine AE rfl 115 _ _ rfl w.heap.size 0 O rfl rfl AB.out.2.1 (by rw[HY.out.1.2.1,HO.out.1.1]) (by rw[HO.out.1.1,HY.out.2];omega) HO.out.1.2 O (by rw[AI _ _ (by rw[Array.length_toList,Array.length_toList,HO.out.1.1,HY.out.2])]) ?_))
 refine NoPanic.normal ?_;go_wp2;exact AN (p:=4) rfl rfl (AF AB.out.2.1 _) Tryz.underlying115 rfl (by rw[HY.out.1.2.1,HO.out.1.1]) rfl ⟨rfl,AB.out.2.2.setRow (.inr (Nat.le_refl _)) _⟩
theorem V9 (h:At w s F σ) (G:Good σ) (n:Int):Calls Tryz.prog 215 #[.pointer (some ⟨s,0,none⟩),.int .i64 n] w fun e w'=>e=.returned (.agg (GM σ n))∧Adds w w':=by
 unfold GM;by_cases h1:(nd σ n).kind=1
 · rw[if_pos h1]
   exact QJ h h1
 rw[if_neg h1];by_cases h2:(nd σ n).kind=2
 · rw[if_pos h2]
   exact M8 h h2
 rw[if_neg h2];refine Pu h ?_;cases hs:σ.get? n with
 | none=>rw[B9 hs];rfl
 | some x =>
  rw[Ay hs] at h1 h2;exact absurd (G.fit.leaf (BV hs) h2).1 h1
theorem PR (h:At w s F σ) (n:Int) (w0:World):(Go.binOp BinOp.eql 115 (.agg (GM σ n)) (.agg (GM σ n))).run Tryz.prog w0=.ok (.bool true) w0:=by
 have hok:=h.ok n;unfold GM;split
 · exact JA hok.key hok.hash rfl rfl w0
 split
 · exact JA rfl rfl (h.Ab _) (h.Ab _) w0
 rw[Vg];exact JA rfl rfl rfl rfl w0
end
section
variable {w0 w w' : World} {s b : Nat} {F G : Nat→Prop} {σ : AD Nd}
theorem ROw.VF (h:ROw w0 w b σ G) (GG:Good σ) (n:Int):Calls Tryz.prog 103 #[.pointer (some ⟨b,0,none⟩),.int .i64 n] w fun e w'=>e=.returned (.agg (AJ (Al σ n)))∧Adds w w':=by
 obtain⟨ρ,F,h1,L,_⟩:=h;exact Fy h1 L GG n
theorem ROw.Xx (h:ROw w0 w b σ G) (GG:Good σ) (n:Int):Calls Tryz.prog 247 #[.pointer (some ⟨b,0,none⟩),.int .i64 n] w fun e w'=>e=.returned (.agg (GM σ n))∧Adds w w':=by
 obtain⟨ρ,F,h1,L,_⟩:=h;exact UG h1 L GG n
theorem UH (hA:At w s F σ) (hR:ROw w0 w b σ G) (GG:Good σ) (n:Int) :
 Calls Tryz.prog 178 #[.pointer (some ⟨s,0,none⟩),.pointer (some ⟨b,0,none⟩),.int .i64 n,.bool true] w fun e w'=>e=.returned (.bool true)∧Adds w w':=by
 have iHas:=fun w1 (a:Adds w w1)=>Wg (hA.adds a) n
 have rHas:=fun w1 (a:Adds w w1)=>(hR.adds a).Yg GG n
 have iKind:=fun w1 (a:Adds w w1)=>Qc (hA.adds a) n
 have rKind:=fun w1 (a:Adds w w1)=>(hR.adds a).kind GG n
 have iDepth:=fun w1 (a:Adds w w1)=>NT (hA.adds a) n
 have rDepth:=fun w1 (a:Adds w w1)=>(hR.adds a).Wr GG n
 have iSize:=fun w1 (a:Adds w w1)=>Qr (hA.adds a) n
 have rSize:=fun w1 (a:Adds w w1)=>(hR.adds a).Xb GG n
 have iCount:=fun w1 (a:Adds w w1)=>(show Calls Tryz.prog 94 #[.pointer (some ⟨s,0,none⟩),.int .i64 n] w1 (fun e w'=>e=.returned (.int .i64 (σ.count n:Nat))∧Adds w1 w') from(Ij (hA.adds a) n).mono fun e w' ⟨he,hw⟩=>⟨he,hw▸Ch.refl _ _⟩)
 have rCount:=fun w1 (a:Adds w w1)=>(hR.adds a).XP GG n
 have iHeld:=fun w1 (a:Adds w w1)=>Vi (hA.adds a) n
 have rHeld:=fun w1 (a:Adds w w1)=>(hR.adds a).YB GG n
 have iRoot:=fun w1 (a:Adds w w1)=>IV (hA.adds a) n
 have rRoot:=fun w1 (a:Adds w w1)=>(hR.adds a).root GG n
 have iKey:=fun w1 (a:Adds w w1)=>UT (hA.adds a) n
 have rKey:=fun w1 (a:Adds w w1)=>(hR.adds a).YM GG n
 have iSd:=fun w1 (a:Adds w w1)=>Ku (hA.adds a) n
 have rSd:=fun w1 (a:Adds w w1)=>(hR.adds a).sides GG n
 have iVl:=fun w1 (a:Adds w w1)=>Rw (hA.adds a) n
 have rVl:=fun w1 (a:Adds w w1)=>(hR.adds a).value GG n
 have iDg:=fun w1 (a:Adds w w1)=>El (hA.adds a) n
 have rDg:=fun w1 (a:Adds w w1)=>(hR.adds a).VF GG n
 have iNd:=fun w1 (a:Adds w w1)=>V9 (hA.adds a) GG n
 have rNd:=fun w1 (a:Adds w w1)=>(hR.adds a).Xx GG n
 have hdl:=hA.Ab n;have hdeq:=GW 85 Tryz.underlying85 (Al σ n) (Al σ n) hdl hdl;rw[decide_eq_true rfl] at hdeq;have hndq:=PR hA n;obtain⟨DD,hDD⟩:∃x,x=AJ (Al σ n):=⟨_,rfl⟩
 rw[←hDD] at iDg rDg hdeq;obtain⟨NN,hNN⟩:∃x,x=GM σ n:=⟨_,rfl⟩
 rw[←hNN] at iNd rNd hndq;have IDg:=Lib.hid iDg;have RDg:=Lib.hid rDg;have INd:=Lib.hid iNd;have RNd:=Lib.hid rNd;clear iDg rDg iNd rNd hdl hDD hNN;have hkl:(nd σ n).key.length=32:=(hA.ok n).key;have hneq:=Uv 24 Tryz.underlying24 (nd σ n).key (nd σ n).key hkl hkl;rw[decide_eq_true rfl,Bool.not_true] at hneq;have hvl:=(hA.ok n).val;obtain⟨hb,hhb⟩:∃x,x=has σ n:=⟨_,rfl⟩
 rw[←hhb] at iHas rHas;obtain⟨kd,hkd⟩:∃x,x=(nd σ n).kind:=⟨_,rfl⟩
 rw[←hkd] at iKind rKind;obtain⟨dp,hdp⟩:∃x,x=depth σ n:=⟨_,rfl⟩
 rw[←hdp] at iDepth rDepth;obtain⟨sz,hsz⟩:∃x,x=(nd σ n).size:=⟨_,rfl⟩
 rw[←hsz] at iSize rSize;obtain⟨ct,hct⟩:∃x,x=((σ.count n:Nat):Int):=⟨_,rfl⟩
 rw[←hct] at iCount rCount;obtain⟨hd,hhd⟩:∃x,x=(nd σ n).held:=⟨_,rfl⟩
 rw[←hhd] at iHeld rHeld;obtain⟨rt,hrt⟩:∃x,x=An σ n:=⟨_,rfl⟩
 rw[←hrt] at iRoot rRoot;obtain⟨K,hK⟩:∃x,x=AJ (nd σ n).key:=⟨_,rfl⟩
 rw[←hK] at iKey rKey hneq;obtain⟨lf,hlf⟩:∃x,x=(nd σ n).left:=⟨_,rfl⟩
 obtain⟨rg,hrg⟩:∃x,x=(nd σ n).right:=⟨_,rfl⟩
 rw[←hlf, ←hrg] at iSd rSd;obtain⟨bs,hbs⟩:∃x,x=(nd σ n).value:=⟨_,rfl⟩
 rw[←hbs] at iVl rVl hvl;have IHas:=Lib.hid iHas;have RHas:=Lib.hid rHas;have IKind:=Lib.hid iKind;have RKind:=Lib.hid rKind;have IDepth:=Lib.hid iDepth;have RDepth:=Lib.hid rDepth;have ISize:=Lib.hid iSize;have RSize:=Lib.hid rSize;have ICount:=Lib.hid iCount;have RCount:=Lib.hid rCount;have IHeld:=Lib.hid iHeld;have RHeld:=Lib.hid rHeld;have IRoot:=Lib.hid iRoot;have RRoot:=Lib.hid rRoot;have IKey:=Lib.hid iKey;have RKey:=Lib.hid rKey;have ISd:=Lib.hid iSd;have RSd:=Lib.hid rSd;have IVl:=Lib.hid iVl;have RVl:=Lib.hid rVl;have HVL:=Lib.hid hvl;have A0:=Lib.hid (Ch.refl (fun _=>False) w);clear iHas rHas hhb iKind rKind hkd iDepth rDepth hdp iSize rSize hsz iCount rCount hct iHeld rHeld hhd iRoot rRoot hrt iKey rKey hK iSd rSd iVl rVl hkl hlf hrg hbs hvl hA hR GG;go_enter Tryz.func178,Tryz.ntmps178;go_wp2_with fail;refine(IHas.out _ A0.out).mono ?_;rintro e w1 ⟨rfl,a⟩;have A1:=Lib.hid (A0.out.trans a (fun _=>fEq));clear a;go_wp2_with fail;refine(RHas.out _ A1.out).mono ?_;rintro e w2 ⟨rfl,a⟩;have A2:=Lib.hid (A1.out.trans a (fun _=>fEq));clear a;go_wp2_with fail;refine(IKind.out _ A2.out).mono ?_;rintro e w3 ⟨rfl,a⟩;have A3:=Lib.hid (A2.out.trans a (fun _=>fEq));clear a;go_wp2_with fail;refine(RKind.out _ A3.out).mono ?_;rintro e w4 ⟨rfl,a⟩;have A4:=Lib.hid (A3.out.trans a (fun _=>fEq));clear a;go_wp2_with fail;refine(IDepth.out _ A4.out).mono ?_;rintro e w5 ⟨rfl,a⟩;have A5:=Lib.hid (A4.out.trans a (fun _=>fEq));clear a;go_wp2_with fail;refine(RDepth.out _ A5.out).mono ?_;rintro e w6 ⟨rfl,a⟩;have A6:=Lib.hid (A5.out.trans a (fun _=>fEq));clear a;go_wp2_with fail;refine(ISize.out _ A6.out).mono ?_;rintro e w7 ⟨rfl,a⟩;have A7:=Lib.hid (A6.out.trans a (fun _=>fEq));clear a;go_wp2_with fail;refine(RSize.out _ A7.out).mono ?_;rintro e w8 ⟨rfl,a⟩;have A8:=Lib.hid (A7.out.trans a (fun _=>fEq));clear a;go_wp2_with fail;refine(ICount.out _ A8.out).mono ?_;rintro e w9 ⟨rfl,a⟩;have A9:=Lib.hid (A8.out.trans a (fun _=>fEq));clear a;go_wp2_with fail;refine(RCount.out _ A9.out).mono ?_;rintro e w10 ⟨rfl,a⟩;have A10:=Lib.hid (A9.out.trans a (fun _=>fEq));clear a;go_wp2_with fail;refine(IHeld.out _ A10.out).mono ?_;rintro e w11 ⟨rfl,a⟩;have A11:=Lib.hid (A10.out.trans a (fun _=>fEq));clear a;go_wp2_with fail;refine(RHeld.out _ A11.out).mono ?_;rintro e w12 ⟨rfl,a⟩;have A12:=Lib.hid (A11.out.trans a (fun _=>fEq));clear a;go_wp2_with fail;refine(IRoot.out _ A12.out).mono ?_;rintro e w13 ⟨rfl,a⟩;have A13:=Lib.hid (A12.out.trans a (fun _=>fEq));clear a;go_wp2_with fail;refine(RRoot.out _ A13.out).mono ?_;rintro e w14 ⟨rfl,a⟩;have A14:=Lib.hid (A13.out.trans a (fun _=>fEq));clear a;go_wp2_with fail;refine(IKey.out _ A14.out).mono ?_;rintro e w15 ⟨rfl,a⟩;have A15:=Lib.hid (A14.out.trans a (fun _=>fEq));clear a;go_wp2_with fail;refine(RKey.out _ A15.out).mono ?_;rintro e w16 ⟨rfl,a⟩;have A16:=Lib.hid (A15.out.trans a (fun _=>fEq));clear a;go_wp2_with fail;refine(ISd.out _ A16.out).mono ?_;rintro e w17 ⟨rfl,a⟩;have A17:=Lib.hid (A16.out.trans a (fun _=>fEq));clear a;go_wp2_with fail;refine(RSd.out _ A17.out).mono ?_;rintro e w18 ⟨rfl,a⟩;have A18:=Lib.hid (A17.out.trans a (fun _=>fEq));clear a;go_wp2_with fail;refine(IVl.out _ A18.out).mono ?_;rintro e wu ⟨u,rfl,hu,a⟩;have AU:=Lib.hid (A18.out.trans a (fun _=>fEq));obtain⟨uo,uc,rfl,_⟩:=hu.bytes.form;have HU:=Lib.hid hu;clear a hu;go_wp2_with fail;refine(IVl.out _ AU.out).mono ?_;rintro e wv ⟨v,rfl,hv,a⟩;have AV:=(hIq (AU.out.trans a (fun _=>fEq)) a)
 obtain⟨vo,vc,rfl,_⟩:=hv.bytes.form;have HV:=Lib.hid hv;clear a hv;go_wp2_with fail;refine(RVl.out _ AV.out.1).mono ?_;rintro e wr ⟨x,rfl,hx,_,a⟩;obtain⟨xo,xc,rfl,_⟩:=hx.form;have AR:=(hIq (AV.out.1.trans a (fun _=>fEq)) (aIq a hx))
 clear a hx;have hsb:=Ip ((HU.out.bytes.Am AV.out.2 (fun _ _ h=>h)).Am AR.out.2.1 (fun _ _ h=>h)) AR.out.2.2;rw[decide_eq_true rfl] at hsb;have HSB:=Lib.hid hsb;clear hsb;go_wp2_with fail;refine HSB.out.mono ?_;rintro e wq ⟨rfl,hwq⟩;subst hwq;go_wp2_with fail;have aw:Adds w (wq.alloc (.cells #[.slice uo bs.length uc,.slice vo bs.length vc] 73)):=AR.out.1.alloc _;have aqu:Adds wu (wq.alloc (.cells #[.slice uo bs.length uc,.slice vo bs.length vc] 73)):=(AV.out.2.trans AR.out.2.1 (fun _=>fEq)).alloc _;have aqv:Adds wv (wq.alloc (.cells #[.slice uo bs.length uc,.slice vo bs.length vc] 73)):=AR.out.2.1.alloc _;obtain⟨au,hau⟩:=(HU.out.Am aqu (fun _ _ h=>h)).whole;obtain⟨av,hav⟩:=(HV.out.Am aqv (fun _ _ h=>h)).whole;have lu:=fun k hk=>HU.out.lt k hk
 have lv:=fun k hk=>HV.out.lt k hk
 have zz:=(AV.out.2.trans AR.out.2.1 (fun _=>fEq)).size;have zv:=AR.out.2.1.size;have zu:=AU.out.size
 have hLs:Fe (fun j=>if j=0 then .slice uo bs.length uc else .slice vo bs.length vc) (fun j=>if j=0 then au else av) wq.heap.size (wq.alloc (.cells #[.slice uo bs.length uc,.slice vo bs.length vc] 73)):=by
  refine⟨fun j hj=>?_,heap_alloc_new _ _⟩;have:j=0∨j=1:=by omega
  rcases this with rfl|rfl
  · exact hau
  exact hav
 have hap:=Ss hLs (fun i j k hi hj hij h1 h2=>by
  have hi':i=0∨i=1:=by omega
  have hj':j=0∨j=1:=by omega
  rcases hi' with rfl|rfl<;>rcases hj' with rfl|rfl
  · exact hij rfl
  · have:=lu k h1;have:=lv k h2;omega
  · have:=lv k h1;have:=lu k h2;omega
  · exact hij rfl) (fun j hj h1=>by
  have hj':j=0∨j=1:=by omega
  rcases hj' with rfl|rfl
  · have:=lu _ h1;omega
  have:=lv _ h1;omega)
 have HAP:=Lib.hid hap;have HLT:=(hIq lu (aIq lv (aIq zu aw)))
 clear hap hLs hau hav lu lv zz zv zu aw aqu aqv;refine HAP.out.mono ?_;rintro e wp ⟨rfl,cp,bf',hL'⟩
 have ap:Adds w wp:=HLT.out.2.2.2.trans cp (fun k hk=>by
  obtain⟨j,hj,hk⟩:=hk;have hj':j=0∨j=1:=by omega
  have h3:=HLT.out.2.2.1;rcases hj' with rfl|rfl
  · have:=(HLT.out.1 k hk).1
    have h4:=A18.out.size;exact .inr (by omega)
  have:=(HLT.out.2.1 k hk).1;exact .inr (by omega))
 have hov:=Ho (hL'.1 0 (by omega));have HOV:=Lib.hid hov;have AP:=Lib.hid ap;clear hov hL' cp ap;go_wp2_with fail;refine HOV.out.mono ?_;rintro e wo ⟨⟨uu,rfl⟩,co,_⟩
 have AO:=Lib.hid (AP.out.trans co (fun k hk=>.inr (by
  have:=(HLT.out.1 k hk).1;have h4:=A18.out.size;omega)))
 clear co;go_wp2_with fail;refine(IVl.out _ AO.out).mono ?_;rintro e wx ⟨y,rfl,hy,a⟩;obtain⟨yo,yc,rfl,_⟩:=hy.bytes.form;have AX:=(hIq (AO.out.trans a (fun _=>fEq)) hy.bytes)
 clear a hy;go_wp2_with fail;refine(RVl.out _ AX.out.1).mono ?_;rintro e wz ⟨z,rfl,hz,_,a⟩;obtain⟨zo,zc,rfl,_⟩:=hz.form;have hsb2:=Ip (AX.out.2.Am a (fun _ _ h=>h)) hz;rw[decide_eq_true rfl] at hsb2;have AZ:=Lib.hid (AX.out.1.trans a (fun _=>fEq));have HSB2:=Lib.hid hsb2;clear a hz hsb2;go_wp2_with fail;refine HSB2.out.mono ?_;rintro e wy ⟨rfl,hwy⟩;subst hwy;go_wp2_with fail;refine(IDg.out _ AZ.out).mono ?_;rintro e wd1 ⟨rfl,a⟩;have B1:=Lib.hid (AZ.out.trans a (fun _=>fEq));clear a;go_wp2_with fail;refine(RDg.out _ B1.out).mono ?_;rintro e wd2 ⟨rfl,a⟩;have B2:=Lib.hid (B1.out.trans a (fun _=>fEq));clear a;go_wp2_with fail;refine(INd.out _ B2.out).mono ?_;rintro e wd3 ⟨rfl,a⟩;have B3:=Lib.hid (B2.out.trans a (fun _=>fEq));clear a;go_wp2_with fail;refine(RNd.out _ B3.out).mono ?_;rintro e wd4 ⟨rfl,a⟩;have B4:=Lib.hid (B3.out.trans a (fun _=>fEq));clear a;go_wp2;go_ret;exact⟨rfl,B4.out⟩
end
end Go.Proofs.YtooijgcildbnlaaGreat.Store
namespace Go.Proofs.YtooijgcildbnlaaGreat.Law7
open Go.RowKit Go.Proofs.YtooijgcildbnlaaGreat.ShaW Go.Proofs.YtooijgcildbnlaaGreat.Path Go.Proofs.YtooijgcildbnlaaGreat.Store
def Y1 (bb:Int):Array Value:=(Value.int .u8 bb::List.replicate 31 (Value.int .u8 0)).toArray
noncomputable def KV (b:UInt8) (v:Value):Nd:=Nd.leaf (Tag.CZ (PK b) (Tag.BC [])) (PK b) (Tag.BC []) [] v
noncomputable def st1 (v:Value):AD Nd:=⟨4,[(KV 0 v,1)],[]⟩
noncomputable def st2 (v u:Value):AD Nd:=⟨4,[(KV 0 v,1),(KV 128 u,1)],[]⟩
noncomputable def top (v u:Value):Nd:=Nd.inner (Tag.Cj (KV 0 v).digest (KV 128 u).digest) (first (PK 0) 0) 0 1 2 2
noncomputable def st3 (v u:Value):AD Nd:=⟨4,[({ KV 0 v with held:=0 },1),({ KV 128 u with held:=0 },1),(top v u,1)],[]⟩
theorem bits:bit (PK 0) 0=0∧bit (PK 128) 0=1:=by decide
end Go.Proofs.YtooijgcildbnlaaGreat.Law7
namespace Go.Proofs.YtooijgcildbnlaaGreat.Law7
open Go.RowKit Go.Proofs.YtooijgcildbnlaaGreat.ShaW Go.Proofs.YtooijgcildbnlaaGreat.Path Go.Proofs.YtooijgcildbnlaaGreat.Store Go.Deep Go.ChangeShapes Go.WideShapes Go.ChangeAt
structure Bk where
 kind:Int
 key:List UInt8
 vv:Value
 val:List UInt8
 d:Int
 a:Int
 b:Int
def Bk.cells (x:Bk):Array Value:=(.int .i64 x.kind::(x.key.map bv ++ [x.vv,.int .i64 x.d,.int .i64 x.a,.int .i64 x.b])).toArray
structure Bk.Good (w:World) (x:Bk):Prop where
 key:x.key.length=32
 val:Bytes w x.vv x.val
 blk:x.val ≠ []→∀k,x.vv.ownBlock=some k→k<w.heap.size
section
variable {x : Bk} (h : x.key.length=32)
include h
theorem Bk.size:x.cells.size=37:=by simp[Bk.cells,h]
omit h in
theorem Bk.list:x.cells.toList=.int .i64 x.kind::(x.key.map bv ++ [x.vv,.int .i64 x.d,.int .i64 x.a,.int .i64 x.b]):=rfl
omit h in
theorem Bk.Av:x.cells[0]?=some (.int .i64 x.kind):=rfl
theorem Bk.Bh:x.cells.extract 1 (1+32)=AJ x.key:=by
 apply Array.ext';simp only[Array.toList_extract,List.extract,Bk.list,AJ,List.drop_succ_cons,List.drop_zero];rw[List.take_append_of_le_length (by simp[h]),List.take_of_length_le (by simp[h])]
theorem Bk.tail (i:Nat):x.cells[33+i]? = [x.vv,.int .i64 x.d,.int .i64 x.a,.int .i64 x.b][i]?:=by
 rw[←Array.getElem?_toList,Bk.list,show 33+i=32+i+1 by omega,List.getElem?_cons_succ,List.getElem?_append_right (by simp[h])];simp[h]
theorem Bk.I3:x.cells[33]?=some x.vv:=Bk.tail h 0
theorem Bk.LI:x.cells[34]?=some (.int .i64 x.d):=Bk.tail h 1
theorem Bk.UF:x.cells[35]?=some (.int .i64 x.a):=Bk.tail h 2
theorem Bk.T9:x.cells[36]?=some (.int .i64 x.b):=Bk.tail h 3
end
def Hk (w:World) (ao:Option Addr) (len:Nat):Prop:=∀i,i<len→∃(g off:Nat) (x:Bk),ao=some ⟨g,off,none⟩∧x.Good w∧D7 w g (off+i*37) x.cells
section
variable {H : Type} {enc : TypeId×Value→H} {W : World} {base : Nat}
theorem ID:Tryz.prog.cellsOf 173=37:=by kernel_rfl
theorem Pp:Tryz.prog.cellsOf 24=32:=by kernel_rfl
theorem OH {n:Nat} {cs:List Value} {y:DataW H×List MemPlace} (h:DataW.trod enc Tryz.prog W base (fun _=>true) true n 173 cs=some y):∃x:Bk,x.Good W∧cs=x.cells.toList:=by
 obtain⟨xs,m,rfl,hx,hl,hxl,hf⟩:=DataW.trod_struct Tryz.underlying173 h;rw[ID] at hl;have hx6:xs.length=6:=hxl;have g:=fun i (hi:i<6)=>(List.getElem?_eq_getElem (l:=xs) (i:=i) (by omega))
 have f0:=hf 0 ⟨ "Kind",3,0,false, "", "",0⟩ rfl;have f1:=hf 1 ⟨ "Key",24,1,false, "", "",8⟩ rfl;have f2:=hf 2 ⟨ "Value",73,33,false, "", "",40⟩ rfl;have f3:=hf 3 ⟨ "D",3,34,false, "", "",64⟩ rfl;have f4:=hf 4 ⟨ "A",3,35,false, "", "",72⟩ rfl;have f5:=hf 5 ⟨ "B",3,36,false, "", "",80⟩ rfl;rw[g 0 (by omega)] at f0;rw[g 1 (by omega)] at f1;rw[g 2 (by omega)] at f2;rw[g 3 (by omega)] at f3;rw[g 4 (by omega)] at f4;rw[g 5 (by omega)] at f5;simp only[R0,Pp,OL] at f0 f1 f2 f3 f4 f5;obtain⟨n0,e0,_,_⟩:=DataW.trod_int Tryz.underlying3 f0;obtain⟨k,e1,hk⟩:=S2 f1;obtain⟨v,bs,e2,hb,hv⟩:=QN f2;obtain⟨n3,e3,_,_⟩:=DataW.trod_int Tryz.underlying3 f3;obtain⟨n4,e4,_,_⟩:=DataW.trod_int Tryz.underlying3 f4;obtain⟨n5,e5,_,_⟩:=DataW.trod_int Tryz.underlying3 f5;refine⟨⟨n0,k,v,bs,n3,n4,n5⟩,⟨hk,hb,hv⟩,?_⟩
 have hsplit:cs=cs.take 1++((cs.drop 1).take 32++((cs.drop 33).take 1++((cs.drop 34).take 1++((cs.drop 35).take 1++(cs.drop 36).take 1)))):=by
  have a5:(cs.drop 36).take 1=cs.drop 36:=List.take_of_length_le (by simp[hl])
  have step:∀i j,cs.drop i=(cs.drop i).take j++cs.drop (i+j):=fun i j=>by
   conv=>lhs;rw[←List.take_append_drop j (cs.drop i)]
   rw[List.drop_drop]
  rw[a5, ←step 35 1, ←step 34 1, ←step 33 1, ←step 1 32];exact step 0 1
 rw[hsplit];simp only[List.drop_zero] at e0;rw[e0,e1,e2,e3,e4,e5];rfl
theorem NV {v:Value} {d:DataW H} {p:List MemPlace} (hv:Value.okWide Tryz.prog W .any base 58 v)
 (h:DataW.Trod enc Tryz.prog W 0 (fun _=>true) true 58 v d p):∃ao len cap,v=.slice ao len cap∧Hk W ao len:=by
 obtain⟨ao,len,cap,rfl⟩:=okWide_slice Tryz.underlying58 hv;obtain⟨m,hm⟩:=h;rcases open_slice Tryz.underlying58 hm with⟨h0,_⟩|⟨a,l,c,mm,n,D,Pl,hcs,hb,hl,hc,hmm,hx,hi⟩
 · simp only[Value.cells,List.cons.injEq,Value.slice.injEq,and_true] at h0
   obtain⟨rfl,rfl,rfl⟩:=h0;exact⟨_,_,_,rfl,fun i hi=>absurd hi (Nat.not_lt_zero i)⟩
 simp only[Value.cells,List.cons.injEq,Value.slice.injEq,and_true] at hcs;obtain⟨rfl,rfl,rfl⟩:=hcs;refine⟨_,_,_,rfl,fun i hil=>?_⟩;obtain⟨cs',h1,h2⟩:=hi i (by rw[hmm];simp only[if_true];exact Nat.lt_of_lt_of_le hil hl);rw[ID] at h1;obtain⟨x,hg,rfl⟩:=OH h2;obtain⟨_,hlen,h3⟩:=World.cells?_some h1;obtain⟨g,off,spot⟩:=a;cases spot with
 | none =>
  refine⟨g,off,x,rfl,hg,?_⟩;have:=D7.Na (w:=W) (g:=g) (o:=off+i*37) (m:=37) (cs:=x.cells.toList) (by omega) hlen (fun j hj=>by have:=h3 j hj;simpa only[add_plain] using this);exact this
 | some s =>
  exfalso;obtain⟨cs',h1,h2⟩:=hi 0 (by rw[hmm];simp only[if_true];exact Nat.lt_of_lt_of_le (Nat.lt_of_le_of_lt (Nat.zero_le _) hil) hl);rw[ID] at h1;obtain⟨x,hg,rfl⟩:=OH h2;obtain⟨_,_,h3⟩:=World.cells?_some h1;have k0:=h3 0 (by omega);rw[Iz _ _ (by simp[Addr.add])] at k0;cases k0
end
end Go.Proofs.YtooijgcildbnlaaGreat.Law7
namespace Go.Proofs.YtooijgcildbnlaaGreat.Law7
open Go.RowKit Go.Proofs.YtooijgcildbnlaaGreat.ShaW Go.Proofs.YtooijgcildbnlaaGreat.Path Go.Proofs.YtooijgcildbnlaaGreat.Store Go.Deep
section
variable {σ : AD Nd} {rm : Nat}
theorem LK (x:Nd):(σ.take x).2.2.room=σ.room:=by
 unfold AD.take;split
 · rfl
 cases σ.free.getLast? with
 | none=>rfl
 | some n=>simp
theorem Pn (key value:List UInt8) (v:Value):(BU σ key value v).2.2.room=σ.room:=by
 unfold BU;split
 · rfl
 exact LK _
theorem Nh (d l r:Int):(Af σ d l r).2.2.room=σ.room:=by
 unfold Af;split
 · rfl
 split
 · rfl
 split
 · rfl
 split
 · rfl
 simp only;rw[Dy,Dy];exact LK _
theorem Pt (n:Int):(Bl σ n).2.room=σ.room:=by
 unfold Bl;split
 · simp only
   rw[Dy];unfold AD.hold;cases σ.get? n with
   | none=>rfl
   | some x =>
    simp only;split<;>rfl
 rfl
theorem QE (h:Int):(BJ σ h).2.2.room=σ.room:=by
 unfold BJ;split
 · simp only
   rw[KG,Dy]
 rfl
structure Cr (rm:Nat) (σ:AD Nd):Prop where
 good:Store.Good σ
 room:σ.room=rm
theorem Cr.leaf (h:Cr rm σ) (key value:List UInt8) (v:Value) (hk:key.length=32):Cr rm (BU σ key value v).2.2:=⟨h.good.leaf key value v hk,(Pn key value v).trans h.room⟩
theorem Cr.inner (h:Cr rm σ) (d l r:Int):Cr rm (Af σ d l r).2.2:=⟨h.good.inner d l r,(Nh d l r).trans h.room⟩
theorem Cr.hold (h:Cr rm σ) (n:Int):Cr rm (Bl σ n).2:=⟨h.good.hold n,(Pt n).trans h.room⟩
theorem Cr.drop (h:Cr rm σ) (n:Int):Cr rm (BJ σ n).2.2:=⟨h.good.drop n,(QE n).trans h.room⟩
end
end Go.Proofs.YtooijgcildbnlaaGreat.Law7
namespace Go.Proofs.YtooijgcildbnlaaGreat.Store
open Go.RowKit Go.Proofs.YtooijgcildbnlaaGreat.ShaW Go.Proofs.YtooijgcildbnlaaGreat.Path
def Tw (w0 w:World) (s b:Nat) (σ:AD Nd) (G:Nat→Prop):Prop :=
 ∃ρ F1 F2,At w s F1 σ∧RAt w b F2 ρ∧Lk σ ρ∧(∀k,F1 k→w0.heap.size≤k)∧(∀k,F2 k→w0.heap.size≤k∧¬F1 k)∧Adds w0 w∧∀k,G k→¬F1 k∧¬F2 k∧k<w.heap.size
section
variable {w0 w w' : World} {s b : Nat} {σ σ' : AD Nd} {G : Nat→Prop}
theorem Tw.world (h:Tw w0 w s b σ G):Adds w0 w:=by obtain⟨_,_,_,_,_,_,_,_,h,_⟩:=h;exact h
theorem Tw.adds (h:Tw w0 w s b σ G) (a:Adds w w'):Tw w0 w' s b σ G:=by
 obtain⟨ρ,F1,F2,h1,h2,h3,h6,h7,h10,h11⟩:=h
 exact⟨ρ,F1,F2,h1.adds a,h2.adds a,h3,h6,h7,h10.trans a (fun _=>fEq),fun k hk=>by
  obtain⟨q1,q2,q5⟩:=h11 k hk;exact⟨q1,q2,Nat.lt_of_lt_of_le q5 a.size⟩⟩
theorem Tw.less {G':Nat→Prop} (h:Tw w0 w s b σ G) (hG:∀k,G' k→G k):Tw w0 w s b σ G':=by
 obtain⟨ρ,F1,F2,h1,h2,h3,h6,h7,h10,h11⟩:=h;exact⟨ρ,F1,F2,h1,h2,h3,h6,h7,h10,fun k hk=>h11 k (hG k hk)⟩
theorem Tw.more (h:Tw w0 w s b σ G) (a:Adds w w') {G':Nat→Prop} (hG:∀k,G' k→G k∨(w.heap.size≤k∧k<w'.heap.size)):Tw w0 w' s b σ G':=by
 obtain⟨ρ,F1,F2,h1,h2,h3,h6,h7,h10,h11⟩:=h;have l1:=At.lt h1;have l2:=RAt.lt h2;refine⟨ρ,F1,F2,h1.adds a,h2.adds a,h3,h6,h7,h10.trans a (fun _=>fEq),fun k hk=>?_⟩;rcases hG k hk with hk|⟨hk,hk'⟩
 · obtain⟨q1,q2,q5⟩:=h11 k hk
   exact⟨q1,q2,Nat.lt_of_lt_of_le q5 a.size⟩
 exact⟨fun h=>by have:=l1 k h;omega,fun h=>by have:=l2 k h;omega,hk'⟩
theorem Tw.ow (h:Tw w0 w s b σ G):Ow w0 w s σ G:=by
 obtain⟨ρ,F1,F2,h1,h2,h3,h6,h7,h10,h11⟩:=h;exact⟨F1,h1,h6,h10,fun k hk=>⟨(h11 k hk).1,(h11 k hk).2.2⟩⟩
theorem Tw.row (h:Tw w0 w s b σ G):ROw w0 w b σ G:=by
 obtain⟨ρ,F1,F2,h1,h2,h3,h6,h7,h10,h11⟩:=h;exact⟨ρ,F2,h2,h3,fun k hk=>(h7 k hk).1,h10,fun k hk=>⟨(h11 k hk).2.1,(h11 k hk).2.2⟩⟩
theorem Tw.both (h:Tw w0 w s b σ G) {f:Nat} {args:Array Value} {P:Ending→AD Nd→Prop}
 (hc:∀G',Ow w0 w s σ G'→Calls Tryz.prog f args w fun e w'=>∃σ',P e σ'∧Ow w0 w' s σ' G'∧But G' w w') :
 Calls Tryz.prog f args w fun e w'=>∃σ',P e σ'∧But G w w' ∧
  ∀ {w1:World} {g:Nat} {args1:Array Value} {P1:Ending→Prop},Adds w' w1→(∀G',ROw w0 w1 b σ G'→Calls Tryz.prog g args1 w1 fun e w2=>P1 e∧ROw w0 w2 b σ' G'∧But G' w1 w2) →
   Calls Tryz.prog g args1 w1 fun e w2=>P1 e∧Tw w0 w2 s b σ' G∧But G w1 w2:=by
 obtain⟨ρ,F1,F2,h1,h2,h3,h6,h7,h10,h11⟩:=h;have l2:=RAt.lt h2;refine(hc (fun k=>F2 k∨G k) ⟨F1,h1,h6,h10,fun k hk=>?_⟩).mono ?_
 · rcases hk with hk|hk
   · exact⟨(h7 k hk).2,l2 k hk⟩
   exact⟨(h11 k hk).1,(h11 k hk).2.2⟩
 rintro e w' ⟨σ',hP,⟨F1',g1,g2,g3,g4⟩,hB⟩;refine⟨σ',hP,hB.less (fun k hk=>.inr hk),fun {w1 g args1 P1} a1 hd=>?_⟩;have l1:=At.lt g1;have r2:RAt w1 b F2 ρ:=(h2.Am hB (fun k hk hn=>hn (.inl hk))).adds a1;refine(hd (fun k=>F1' k∨G k) ⟨ρ,F2,r2,h3,fun k hk=>(h7 k hk).1,g3.trans a1 (fun _=>fEq),fun k hk=>?_⟩).mono ?_
 · rcases hk with hk|hk
   · exact⟨fun hf=>(g4 k (.inl hf)).1 hk,Nat.lt_of_lt_of_le (l1 k hk) a1.size⟩
   exact⟨(h11 k hk).2.1,Nat.lt_of_lt_of_le (g4 k (.inr hk)).2 a1.size⟩
 rintro e w2 ⟨hP1,⟨ρ',F2',k1,kL,k2,k3,k4⟩,hB2⟩;refine⟨hP1,⟨ρ',F1',F2',(g1.adds a1).Am hB2 (fun k hk hn=>hn (.inl hk)),k1,kL,g2,fun k hk=>⟨k2 k hk,fun hf=>(k4 k (.inl hf)).1 hk⟩,k3,fun k hk=>?_⟩,hB2.less (fun k hk=>.inr hk)⟩;exact⟨(g4 k (.inr hk)).1,(k4 k (.inr hk)).1,(k4 k (.inr hk)).2⟩
theorem Tw.look (h:Tw w0 w s b σ G) (GG:Good σ) (n:Int):Calls Tryz.prog 178 #[.pointer (some ⟨s,0,none⟩),.pointer (some ⟨b,0,none⟩),.int .i64 n,.bool true] w fun e w'=>e=.returned (.bool true)∧Adds w w':=by
 obtain⟨F1,h1,_⟩:=h.ow;exact UH h1 h.row GG n
end
end Go.Proofs.YtooijgcildbnlaaGreat.Store
