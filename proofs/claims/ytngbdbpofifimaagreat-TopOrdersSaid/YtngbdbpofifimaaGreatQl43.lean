/- Laws of the layers below. -/
import Derived.Test.YtngbdbpofifimaaGreatQl42
import Derived.Deep.OwnRows
set_option maxHeartbeats 3200000
set_option maxRecDepth 100000
set_option linter.unusedVariables false
namespace Go.Proofs.YtngbdbpofifimaaGreat.Law15
open Go.RowKit Go.Sort Go.Proofs.YtngbdbpofifimaaGreat.ShaW Go.Proofs.YtngbdbpofifimaaGreat.Path Go.Proofs.YtngbdbpofifimaaGreat.Store Go.Proofs.YtngbdbpofifimaaGreat.Law9 Go.Proofs.YtngbdbpofifimaaGreat.Law14
theorem Nv {σ:AD Nd} {root:Int} {L:AS} {R:List (Int×AS)} {key bs:List UInt8} (D:BE σ ((root,L)::R)) (h32:key.length=32) (hb:bs.length≤1024) (hr:Store.live σ+258≤σ.room):DZ σ key bs=0∧JM σ L key bs=upd L key bs:=by
 have e:DZ σ key bs=0:=by
  unfold DZ Er;rw[if_pos h32,if_neg (by omega),GN,D.good.used,decide_eq_true hr,if_pos rfl]
 exact⟨e,by unfold JM;rw[if_pos e]⟩
theorem Y1 {w:World} {g:Nat} {fr:Nat×Nat} (h:w.heap[g]?=some (.cells #[.int .u8 97] 5 fr)):Bytes w (.slice (some ⟨g,0,none⟩) 1 1) [97]:=Bytes.row (bs := [97]) h rfl (by unfold maxLen;omega)
theorem Dct.aN {w0 w w':World} {d v s room tn:Nat} {G:Nat→Prop} {σ:AD Nd} {root:Int} {L:AS} {M:Nmd} (h:Dct w0 w d v s G room σ root L M tn) (a:Adds w w') {N:Nat→Prop} (hN:∀k,N k→w.heap.size≤k∧k<w'.heap.size):Dct w0 w' d v s (fun k=>G k∨N k) room σ root L M tn:=by
 have hd:=Ac h.cell;refine⟨a.row h.cell id,h.vs.more a (fun k hk=>?_),h.rts,h.room,h.total,h.base.1,fun hk=>hk.elim h.base.2 (fun e=>by have:=hN _ e;omega)⟩;rcases hk with hk|hk|hk
 · exact .inl (.inl hk)
 · exact .inl (.inr hk)
 exact .inr (hN k hk)
theorem U0 (w:World):Calls Tryz.prog 9 #[] w fun e w'=>e=.returned (.bool true)∧Adds w w':=by
 have hmk:∀w:World,(Instr.makeSlice 29 (.int .i64 32) (.int .i64 32)).run Tryz.prog w=.ok (.slice (some ⟨w.heap.size,0,none⟩) 32 32) (w.alloc (.cells (madeCells #[.int .u8 0] 32) 5)):=fun w =>
  run_make_row' 29 5 (.int .u8 0) 1 Tryz.underlying29 (by kernel_rfl) rfl .i64 .i64 32 (by omega) (by omega) w
 obtain⟨MC,hMC⟩:∃MC,MC=madeCells #[Value.int .u8 0] 32:=⟨_,rfl⟩
 have hmc:MC=AK Cf:=by rw[hMC];kernel_rfl
 have hmh:MC.setIfInBounds 0 (.int .u8 128)=AK Cm:=by rw[hmc];rfl
 have hm0:MC[0]?=some (.int .u8 0):=by rw[hmc];rfl
 rw[←hMC] at hmk;have HMC:=(hIq hmc (aIq hmh hm0))
 have HNW:=Lib.hid (N3 600 w (by decide) (by decide));clear hMC hmc hmh hm0;go_enter Tryz.func9,Tryz.ntmps9;go_wp2_with fail;refine HNW.out.mono ?_;rintro e w1 ⟨d,v,s,rfl,hd⟩;have HD:=Lib.hid hd;clear hd HNW;go_upto_region 4 with fail;go_cut [3,4] (fun s3 s4 wx=>∃b1 b2,s3=.slice (some ⟨b1,0,none⟩) 32 32∧s4=.slice (some ⟨b2,0,none⟩) 32 32∧b1≠b2∧w1.heap.size≤b1∧w1.heap.size≤b2∧wx.heap[b1]?=some (.cells MC 5 (0,0))∧wx.heap[b2]?=some (.cells MC 5 (0,0))∧Adds w1 wx)
 case first =>
  refine Dp 1 (fun _=>True) 3 [(0,true),(2,false)] (by kernel_rfl) (by kernel_rfl) trivial ?_;refine GO rfl rfl ?_ ?_
  · go_wp2
    refine⟨trivial,?_⟩;refine planF_look rfl rfl (fun w0 hS=>(by clear hS;go_simp;try rfl)) ?_;simp only[Act.put,nAq,nBq,nCq];refine Gc rfl ?_;go_wp2;refine⟨trivial,?_⟩;refine AZ ?_;simp only[List.drop_succ_cons,List.drop_zero];go_wp2;refine NoPanic.normal ?_;go_wp2;go_meet;exact⟨w1.heap.size,w1.heap.size+1,rfl,by simp,by omega,by omega,by omega,AM (heap_alloc_new w1.drew _) _,(by have:=heap_alloc_new (w1.alloc (.cells MC 5)) (.cells MC 5);rw[World.size_alloc] at this;exact this),((Ch.refl _ _).drew.alloc _).alloc _⟩
  go_wp2;refine⟨trivial,?_⟩;refine AV rfl ?_;go_wp2;refine⟨trivial,?_⟩;refine plan_look rfl rfl (fun w0 hS=>(by clear hS;go_simp;try rfl)) ?_;simp only[Act.put,nAq,nBq,nCq];refine AZ ?_;simp only[List.drop_succ_cons,List.drop_zero];go_wp2;refine NoPanic.normal ?_;go_wp2;go_meet;exact⟨w1.heap.size+1,w1.heap.size,by simp,rfl,by omega,by omega,by omega,(by have:=heap_alloc_new (w1.alloc (.cells MC 5)) (.cells MC 5);rw[World.size_alloc] at this;exact this),AM (heap_alloc_new w1.drew _) _,((Ch.refl _ _).drew.alloc _).alloc _⟩
 obtain⟨b1,b2,rfl,rfl,hne,hb1,hb2,r1,r2,a2⟩:=hcut;have c0:=AH r2 (i:=0) HMC.out.2.2;have f0:=Al r2 0;have l0:=Ac r2;have HR:=(hIq r1 (aIq r2 (aIq a2 (aIq hne (aIq hb1 hb2)))))
 clear r1 r2 a2 hne hb1 hb2;go_upto_region 6 with fail;refine BJ (fun w3 hw3=>?_);have rz:w3.heap[b1]?=some (.cells (AK Cf) 5 (0,0)):=by rw[hw3, ←HMC.out.1];exact Ap HR.out.1 HR.out.2.2.2.1 _
 have ry:w3.heap[b2]?=some (.cells (AK Cm) 5 (0,0)):=by rw[hw3, ←HMC.out.2.1];exact AQ HR.out.2.1 0 _
 have a3:Adds w1 w3:=by rw[hw3];exact HR.out.2.2.1.setCell (.inr HR.out.2.2.2.2.2) _
 have zb:∀w9,Adds w3 w9→Bytes w9 (.slice (some ⟨b1,0,none⟩) 32 32) Cf:=fun w9 a=>Bytes.row (bs:=Cf) (n:=32) (a.row rz id) rfl (by unfold maxLen;omega)
 have yb:∀w9,Adds w3 w9→Bytes w9 (.slice (some ⟨b2,0,none⟩) 32 32) Cm:=fun w9 a=>Bytes.row (bs:=Cm) (n:=32) (a.row ry id) rfl (by unfold maxLen;omega)
 have d3:=HD.out.aN a3 (N:=fun k=>k=b1∨k=b2) (fun k hk=>by
  rcases hk with rfl|rfl
  · exact⟨HR.out.2.2.2.2.1,Ac rz⟩
  exact⟨HR.out.2.2.2.2.2,Ac ry⟩)
 have e1:=Nv (key:=Cf) (bs := [97]) d3.rts rfl (by decide) (by show 0+258≤600;omega);have hp1:=fun w9 (a:Adds w3 w9) (h97:w9.heap[w3.heap.size]?=some (.cells #[.int .u8 97] 5 (1,2)))=>OQ (d3.adds a) (zb w9 a) (Y1 h97) (fun _ k hk=>by cases hk;exact Ac h97) (by omega)
 rw[e1.1,e1.2] at hp1;have kc0:=Lib.run_convert_bytes_const (P:=Tryz.prog) w3 29 5 #[.int .u8 97] 1 1 Tryz.underlying29 Tryz.underlying5;have HP:=(hIq hp1 (aIq rz (aIq ry d3.world)))
 clear rz ry a3 zb yb d3 e1 hp1 hw3 c0 f0 l0 HR hmk;go_wp2_with fail;refine(HP.out.1 _ ((Ch.refl _ _).alloc _) (heap_alloc_new _ _)).mono ?_;rintro e w4 ⟨rfl,σ1,r1,hs1⟩;have rz4:=hs1.but.row (((Ch.refl (fun _=>False) w3).alloc (.cells #[.int .u8 97] 5 (1,2))).row HP.out.2.1 id) (.inr (.inl rfl));have ry4:=hs1.but.row (((Ch.refl (fun _=>False) w3).alloc (.cells #[.int .u8 97] 5 (1,2))).row HP.out.2.2.1 id) (.inr (.inr rfl));have e2:=Nv (key:=Cm) (bs := []) hs1.dct.rts rfl (by decide) (by have h1:=hs1.live;have h2:=hs1.dct.room;have h3:Store.live (⟨600,[],[]⟩:AD Nd)=0:=rfl;omega);have hp2:=OQ hs1.dct (Bytes.row (bs:=Cm) (n:=32) ry4 rfl (by unfold maxLen;omega)) (Bytes.nil w4) (fun h=>absurd rfl h) (by omega);rw[e2.1,e2.2] at hp2;have HP2:=(hIq hp2 (aIq rz4 ry4))
 clear rz4 ry4 e2 hp2 hs1 kc0 HP;go_wp2_with fail;refine HP2.out.1.mono ?_;rintro e w5 ⟨rfl,σ2,r2,hs2⟩;have rz5:=hs2.but.row HP2.out.2.1 (.inr (.inl rfl));have ry5:=hs2.but.row HP2.out.2.2 (.inr (.inr rfl));have d5:=hs2.dct;have hN:([]:List UInt8)∈FY []:=List.mem_cons_self ..;have hE:Cv (upd (upd [] Cf [97]) Cm []) [] []=upd (upd [] Cf [97]) Cm []:=if_pos rfl;have hlen:(upd (upd [] Cf [97]) Cm []).length=2:=by rw[Gm];rfl
 have hgt:=fun w9 (a:Adds w5 w9)=>Ur (d5.adds a) hN (Bytes.row (bs:=Cf) (n:=32) (a.row rz5 id) rfl (by unfold maxLen;omega)) rfl
 have hrt:=fun w9 (a:Adds w5 w9)=>KM (d5.adds a) hN
 have hln:=fun w9 (a:Adds w5 w9)=>O9 (d5.adds a) hN
 have hoc:=fun w9 (a:Adds w5 w9)=>Of (d5.adds a)
 have hof:=fun w9 (a:Adds w5 w9)=>Kt (Bytes.row (bs:=Cm) (n:=32) (a.row ry5 id) rfl (by unfold maxLen;omega)) rfl
 rw[hE] at hgt hrt hln;rw[hlen] at hln;rw[SN] at hrt;rw[Qh d5.rts] at hoc;obtain⟨D1,hD1⟩:∃D,D=Tag.DK Cf (Tag.Av [97]):=⟨_,rfl⟩
 obtain⟨D2,hD2⟩:∃D,D=Tag.DK Cm (Tag.Av []):=⟨_,rfl⟩
 have h1l:D1.length=32:=by rw[hD1];exact Tag.AT _ _
 have h2l:D2.length=32:=by rw[hD2];exact Tag.AT _ _
 rw[←hD1, ←hD2] at hrt;have hin:=fun w9=>Tag.Hr D1 D2 h1l h2l w9
 obtain⟨R,hR⟩:∃R,R=AK (Tag.DI D1 D2):=⟨_,rfl⟩
 rw[←hR] at hrt hin;obtain⟨X1,hX1⟩:∃X,X=AK D1:=⟨_,rfl⟩
 obtain⟨X2,hX2⟩:∃X,X=AK D2:=⟨_,rfl⟩
 rw[←hX1, ←hX2] at hin;have hl1:=fun w9=>Tag.IV Cf (Tag.Av [97]) rfl (Tag.AT _ _) w9
 have hl2:=fun w9=>Tag.IV Cm (Tag.Av []) rfl (Tag.AT _ _) w9
 rw[←hD1, ←hX1] at hl1;rw[←hD2, ←hX2] at hl2;have hv1:=fun(w9:World) (g:Nat) (h97:w9.heap[g]?=some (.cells #[.int .u8 97] 5 (1,2)))=>Tag.Dh (Y1 h97) (fun _ k hk=>by cases hk;exact Ac h97) (by decide)
 have hv2:=fun w9=>Tag.Dh (Bytes.nil w9) (fun h=>absurd rfl h) (by decide)
 obtain⟨V1,hV1⟩:∃X,X=AK (Tag.Av [97]):=⟨_,rfl⟩
 obtain⟨V2,hV2⟩:∃X,X=AK (Tag.Av []):=⟨_,rfl⟩
 rw[←hV1] at hl1 hv1;rw[←hV2] at hl2 hv2;obtain⟨Z,hZ⟩:∃X,X=AK Cf:=⟨_,rfl⟩
 obtain⟨Y,hY⟩:∃X,X=AK Cm:=⟨_,rfl⟩
 rw[←hZ] at hl1;rw[←hY] at hl2 hof;have hzb:Tryz.prog.built 47 []=some Z:=by rw[hZ];exact Sh
 have hem:=fun w9=>Tag.JL w9
 obtain⟨E,hEm⟩:∃X,X=AK Tag.CJ:=⟨_,rfl⟩
 rw[←hEm] at hem;have HQ:=(hIq hgt (aIq hrt (aIq hln (aIq hoc hof))))
 have HT:=(hIq hin (aIq hl1 (aIq hl2 (aIq hv1 (aIq hv2 (aIq hzb hem))))))
 have HRs:=(hIq (show R.size=32 by rw[hR,AN];exact Tag.AT _ _) (show ∀v∈R.toList,v.oneCell'=true by rw[hR];exact Ae _))
 have HX1:=(hIq (show X1.size=32 by rw[hX1,AN,h1l]) (show ∀v∈X1.toList,v.oneCell'=true by rw[hX1];exact Ae _))
 have HX2:=(hIq (show X2.size=32 by rw[hX2,AN,h2l]) (show ∀v∈X2.toList,v.oneCell'=true by rw[hX2];exact Ae _))
 have HY:=(hIq (show Y.size=32 by rw[hY];rfl) (show ∀v∈Y.toList,v.oneCell'=true by rw[hY];exact Ae _))
 have HE:=(hIq (show E.size=32 by rw[hEm,AN];exact Tag.AT _ _) (aIq (show ∀v∈E.toList,v.oneCell'=true by rw[hEm];exact Ae _) hEm))
 have heq:=fun w9=>FU 35 Tryz.underlying35 (Tag.DI D1 D2) (Tag.DI D1 D2) (Tag.AT _ _) (Tag.AT _ _) w9
 simp only[←hR,decide_true] at heq;have HEQ:=Lib.hid heq;have HW:=Lib.hid d5.world;clear rz5 ry5 d5 hN hE hlen hgt hrt hln hoc hof hin hl1 hl2 hv1 hv2 hzb hem hR hX1 hX2 hV1 hV2 hZ hY hEm h1l h2l hD1 hD2 heq hs2 HP2;go_upto_region 8 with fail;go_wp2_with fail;refine(HQ.out.1 _ (Ch.refl _ _)).mono ?_;rintro e w6 ⟨a6,hc⟩;rcases hc with⟨hno,_⟩|⟨bs,v6,hm,rfl,hb6,_⟩
 · exact absurd PK hno
 obtain rfl:=T8 hm;obtain⟨vo,vc,hv6,_,_⟩:=hb6.form;change v6=.slice vo 1 vc at hv6;subst hv6;have hcv:∀w9,Adds w6 w9→(convert 29 9 (.slice vo 1 vc)).run Tryz.prog w9=.ok (.string { data:=#[97] }) w9:=fun w9 a=>DM (hb6.Af a (fun _ _ h=>h))
 have H6:=(hIq a6 hcv)
 clear hb6 hm a6 hcv;go_wp2_with fail;refine(HQ.out.2.1 _ H6.out.1).mono ?_;rintro e w7 ⟨rfl,a7⟩;have A7:=Lib.hid a7;clear a7
 go_upto_region 10 with(first
  | fail
  | ((with_reducible show zOq (.alloc 35));refine AI rfl 35 rfl (.agg (AK (List.replicate 32 0))) EJ ?_;dsimp only[Value.cells];try simp only[World.size_alloc])
  | ((with_reducible show zOq (.store 35 _ _));refine AE rfl 35 _ _ rfl w7.heap.size 0 R rfl rfl (heap_alloc_new _ _) (by rw[Be,HRs.out.1]) (by rw[HRs.out.1];exact Nat.le_of_eq (Nat.zero_add _)) HRs.out.2 R (by rw[AJ _ _ (by rw[Array.length_toList,Array.length_toList,HRs.out.1];rfl)]) ?_))
 refine BJ (fun w8 hw8=>?_);have a8:Adds w6 w8:=by rw[hw8];exact(A7.out.alloc _).setRow (.inr A7.out.size) _
 have r8:w8.heap[w7.heap.size]?=some (.cells R 35 (0,0)):=by rw[hw8];exact AF (heap_alloc_new w7 (.cells (AK (List.replicate 32 0)) 35)) R
 obtain⟨B8,hB8⟩:∃b,b=w7.heap.size:=⟨_,rfl⟩
 rw[←hB8] at r8 ⊢;have H8:=(hIq a8 (aIq (H6.out.1.trans a8 (fun _=>fEq)) r8))
 clear a8 r8 hw8 hB8;go_wp2_with fail;refine(HQ.out.2.2.1 _ H8.out.2.1).mono ?_;rintro e w9 ⟨rfl,a9⟩;have H9:=(hIq (H8.out.1.trans a9 (fun _=>fEq)) (aIq (H8.out.2.1.trans a9 (fun _=>fEq)) (a9.row H8.out.2.2 id)))
 have kcv:=H6.out.2 w9 H9.out.1;clear a9;go_wp2_with fail;refine(HQ.out.2.2.2.1 _ H9.out.2.1).mono ?_;rintro e w10 ⟨rfl,rfl⟩;clear kcv;go_wp2_with fail;refine(HQ.out.2.2.2.2 _ H9.out.2.1).mono ?_;rintro e w10 ⟨rfl,a10⟩;have A10:=Lib.hid a10;clear a10
 go_upto_region 14 with(first
  | fail
  | ((with_reducible show zOq (.alloc 47));refine AI rfl 47 rfl (.agg (AK (List.replicate 32 0))) Ef ?_;dsimp only[Value.cells];try simp only[World.size_alloc])
  | ((with_reducible show zOq (.store 47 _ _));refine AE rfl 47 _ _ rfl w10.heap.size 0 Y rfl rfl (heap_alloc_new _ _) (by rw[AY,HY.out.1]) (by rw[HY.out.1];exact Nat.le_of_eq (Nat.zero_add _)) HY.out.2 Y (by rw[AJ _ _ (by rw[Array.length_toList,Array.length_toList,HY.out.1];rfl)]) ?_))
 refine BJ (fun w11 hw11=>?_);have a11:Adds w9 w11:=by rw[hw11];exact(A10.out.alloc _).setRow (.inr A10.out.size) _
 have r11:w11.heap[w10.heap.size]?=some (.cells Y 47 (0,0)):=by rw[hw11];exact AF (heap_alloc_new w10 (.cells (AK (List.replicate 32 0)) 47)) Y
 obtain⟨B12,hB12⟩:∃b,b=w10.heap.size:=⟨_,rfl⟩
 rw[←hB12] at r11 ⊢;have kc1:=Lib.run_convert_bytes_const (P:=Tryz.prog) w11 29 5 #[.int .u8 97] 1 1 Tryz.underlying29 Tryz.underlying5;have H11:=(hIq (H9.out.2.1.trans a11 (fun _=>fEq)) (aIq (a11.row H9.out.2.2 id) r11))
 clear a11 r11 hw11 hB12
 go_wp2_with (first
  | fail
  | ((with_reducible show zOq (.build 47 #[]));refine Cb rfl 47 rfl Z HT.out.2.2.2.2.2.1 ?_))
 refine(HT.out.2.2.2.1 _ _ (heap_alloc_new _ _)).mono ?_;rintro e w12 ⟨rfl,a12⟩;clear kc1;have H12:=Lib.hid (((Ch.refl (fun _=>False) w11).alloc (.cells #[.int .u8 97] 5 (1,2))).trans a12 (fun _=>fEq));clear a12;go_wp2_with fail;refine(HT.out.2.1 _).mono ?_;rintro e w13 ⟨rfl,a13⟩;have H13:=Lib.hid (H12.out.trans a13 (fun _=>fEq));clear a13
 go_upto_region 15 with(first
  | fail
  | ((with_reducible show zOq (.alloc 35));refine AI rfl 35 rfl (.agg (AK (List.replicate 32 0))) EJ ?_;dsimp only[Value.cells];try simp only[World.size_alloc])
  | ((with_reducible show zOq (.store 35 _ _));refine AE rfl 35 _ _ rfl w13.heap.size 0 X1 rfl rfl (heap_alloc_new _ _) (by rw[Be,HX1.out.1]) (by rw[HX1.out.1];exact Nat.le_of_eq (Nat.zero_add _)) HX1.out.2 X1 (by rw[AJ _ _ (by rw[Array.length_toList,Array.length_toList,HX1.out.1];rfl)]) ?_))
 refine BJ (fun w14 hw14=>?_);have a14:Adds w11 w14:=by rw[hw14];exact(H13.out.alloc _).setRow (.inr H13.out.size) _
 have r14:w14.heap[w13.heap.size]?=some (.cells X1 35 (0,0)):=by rw[hw14];exact AF (heap_alloc_new w13 (.cells (AK (List.replicate 32 0)) 35)) X1
 obtain⟨B14,hB14⟩:∃b,b=w13.heap.size:=⟨_,rfl⟩
 rw[←hB14] at r14 ⊢;have H14:=(hIq (H11.out.1.trans a14 (fun _=>fEq)) (aIq (a14.row H11.out.2.1 id) (aIq (a14.row H11.out.2.2 id) r14)))
 clear a14 r14 hw14 hB14
 try go_frame
 go_cut [15] (fun s15 wx=>∃b,s15=.pointer (some ⟨b,0,none⟩)∧wx.heap[b]?=some (.cells X2 35 (0,0))∧Adds w14 wx)
 case first =>
  refine Dp 3 (fun w0=>w0.heap[B12]?=some (.cells Y 47 (0,0))∧Adds w14 w0) 4 [(0,false),(1,true),(2,true)] (by kernel_rfl) (by kernel_rfl) ⟨AP H14.out.2.2.1,(Ch.refl _ _).drew⟩ ?_;refine K4 (cur:=Y) (t:=47) (fr:=(0,0)) rfl rfl 47 (.tmp 12) rfl B12 0 32 rfl (fun w0 hS=>hS.1) Tryz.underlying47 rfl AY (by rw[HY.out.1];omega) Y (by simp[←HY.out.1]) ?_;simp only[Act.put,nAq,nBq,nCq];refine GO rfl rfl ?_ ?_
  · go_wp2_with fail
    refine(HT.out.2.2.2.2.1 _).mono ?_;rintro e w15 ⟨rfl,a⟩;have HA:=Lib.hid (((Ch.refl (fun _=>False) w14).drew).trans a (fun _=>fEq));clear a;dsimp only;go_step;refine wpList_nil ?_;change _∧_;refine⟨⟨HA.out.row H14.out.2.2.1 id,HA.out⟩,?_⟩;refine GO rfl rfl ?_ ?_
    · go_wp2_with fail
      refine(HT.out.2.2.1 _).mono ?_;rintro e w16 ⟨rfl,a⟩;have HB:=Lib.hid ((HA.out).trans a (fun _=>fEq));clear a;dsimp only;go_step;refine wpList_nil ?_;change _∧_;refine⟨⟨HB.out.row H14.out.2.2.1 id,HB.out⟩,?_⟩;refine Gc rfl ?_
      go_wp2_with (first
       | fail
       | ((with_reducible show zOq (.alloc 35));refine AI rfl 35 rfl (.agg (AK (List.replicate 32 0))) EJ ?_;dsimp only[Value.cells];try simp only[World.size_alloc]))
      refine⟨⟨AM (HB.out.row H14.out.2.2.1 id) _,HB.out.alloc _⟩,?_⟩;have hsz:=HB.out.size;refine AZ ?_;simp only[List.drop_succ_cons,List.drop_zero]
      go_wp2_with (first
       | fail
       | ((with_reducible show zOq (.store 35 _ _));refine AE rfl 35 _ _ rfl w16.heap.size 0 X2 rfl rfl (heap_alloc_new _ _) (by rw[Be,HX2.out.1]) (by rw[HX2.out.1];exact Nat.le_of_eq (Nat.zero_add _)) HX2.out.2 X2 (by rw[AJ _ _ (by rw[Array.length_toList,Array.length_toList,HX2.out.1];rfl)]) ?_))
      refine NoPanic.normal ?_;go_wp2;go_meet;exact⟨w16.heap.size,rfl,AF ((heap_alloc_new _ _)) X2,(HB.out.alloc _).setRow (.inr (by first|exact Nat.le_refl _|omega)) _⟩
    go_wp2_with (first
     | fail
     | ((with_reducible show zOq (.alloc 35));refine AI rfl 35 rfl (.agg (AK (List.replicate 32 0))) EJ ?_;dsimp only[Value.cells];try simp only[World.size_alloc]))
    refine⟨⟨AM (HA.out.row H14.out.2.2.1 id) _,HA.out.alloc _⟩,?_⟩;refine AV rfl ?_;go_wp2_with fail;refine(HT.out.2.2.1 _).mono ?_;rintro e w16 ⟨rfl,a⟩;have HB:=(hIq ((HA.out.alloc (.cells (AK (List.replicate 32 0)) 35)).trans a (fun _=>fEq)) (a.row (heap_alloc_new w15 (.cells (AK (List.replicate 32 0)) 35)) id))
    clear a;dsimp only;go_step;refine wpList_nil ?_;change _∧_;refine⟨⟨HB.out.1.row H14.out.2.2.1 id,HB.out.1⟩,?_⟩;have hsz:=HA.out.size;refine AZ ?_;simp only[List.drop_succ_cons,List.drop_zero]
    go_wp2_with (first
     | fail
     | ((with_reducible show zOq (.store 35 _ _));refine AE rfl 35 _ _ rfl w15.heap.size 0 X2 rfl rfl HB.out.2 (by rw[Be,HX2.out.1]) (by rw[HX2.out.1];exact Nat.le_of_eq (Nat.zero_add _)) HX2.out.2 X2 (by rw[AJ _ _ (by rw[Array.length_toList,Array.length_toList,HX2.out.1];rfl)]) ?_))
    refine NoPanic.normal ?_;go_wp2;go_meet;exact⟨w15.heap.size,rfl,AF (HB.out.2) X2,(HB.out.1).setRow (.inr (by first|exact Nat.le_refl _|omega)) _⟩
  go_wp2_with (first
   | fail
   | ((with_reducible show zOq (.alloc 35));refine AI rfl 35 rfl (.agg (AK (List.replicate 32 0))) EJ ?_;dsimp only[Value.cells];try simp only[World.size_alloc]))
  refine⟨⟨AM (AP H14.out.2.2.1) _,(Ch.refl _ _).drew.alloc _⟩,?_⟩;refine AV rfl ?_;go_wp2_with fail;refine(HT.out.2.2.2.2.1 _).mono ?_;rintro e w15 ⟨rfl,a⟩;have HA:=(hIq (((Ch.refl (fun _=>False) w14).drew.alloc (.cells (AK (List.replicate 32 0)) 35)).trans a (fun _=>fEq)) (a.row (heap_alloc_new w14.drew (.cells (AK (List.replicate 32 0)) 35)) id))
  clear a;dsimp only;go_step;refine wpList_nil ?_;change _∧_;refine⟨⟨HA.out.1.row H14.out.2.2.1 id,HA.out.1⟩,?_⟩;refine AV rfl ?_;go_wp2_with fail;refine(HT.out.2.2.1 _).mono ?_;rintro e w16 ⟨rfl,a⟩;have HB:=(hIq ((HA.out.1).trans a (fun _=>fEq)) (a.row (HA.out.2) id))
  clear a;dsimp only;go_step;refine wpList_nil ?_;change _∧_;refine⟨⟨HB.out.1.row H14.out.2.2.1 id,HB.out.1⟩,?_⟩;refine AZ ?_;simp only[List.drop_succ_cons,List.drop_zero]
  go_wp2_with (first
   | fail
   | ((with_reducible show zOq (.store 35 _ _));refine AE rfl 35 _ _ rfl w14.heap.size 0 X2 rfl rfl HB.out.2 (by rw[Be,HX2.out.1]) (by rw[HX2.out.1];exact Nat.le_of_eq (Nat.zero_add _)) HX2.out.2 X2 (by rw[AJ _ _ (by rw[Array.length_toList,Array.length_toList,HX2.out.1];rfl)]) ?_))
  refine NoPanic.normal ?_;go_wp2;go_meet;exact⟨w14.heap.size,rfl,AF (HB.out.2) X2,(HB.out.1).setRow (.inr (by first|exact Nat.le_refl _|omega)) _⟩
 obtain⟨B15,rfl,r15,a15⟩:=hcut;have H15:=(hIq (H14.out.1.trans a15 (fun _=>fEq)) (aIq (a15.row H14.out.2.1 id) (aIq (a15.row H14.out.2.2.2 id) r15)))
 clear a15 r15;go_wp2_with fail;refine(HT.out.2.2.2.2.2.2 _).mono ?_;rintro e w17 ⟨rfl,a17⟩;have H17:=Lib.hid a17;clear a17
 go_upto_region 17 with(first
  | fail
  | ((with_reducible show zOq (.alloc 35));refine AI rfl 35 rfl (.agg (AK (List.replicate 32 0))) EJ ?_;dsimp only[Value.cells];try simp only[World.size_alloc])
  | ((with_reducible show zOq (.store 35 _ _));refine AE rfl 35 _ _ rfl w17.heap.size 0 E rfl rfl (heap_alloc_new _ _) (by rw[Be,HE.out.1]) (by rw[HE.out.1];exact Nat.le_of_eq (Nat.zero_add _)) HE.out.2.1 E (by rw[AJ _ _ (by rw[Array.length_toList,Array.length_toList,HE.out.1];rfl)]) ?_))
 refine BJ (fun w18 hw18=>?_);have a18:Adds wc w18:=by rw[hw18];exact(H17.out.alloc _).setRow (.inr H17.out.size) _
 have r18:w18.heap[w17.heap.size]?=some (.cells E 35 (0,0)):=by rw[hw18];exact AF (heap_alloc_new w17 (.cells (AK (List.replicate 32 0)) 35)) E
 obtain⟨B16,hB16⟩:∃b,b=w17.heap.size:=⟨_,rfl⟩
 rw[←hB16] at r18 ⊢;have hfin:∀wz,Adds w18 wz→Adds w wz:=fun wz a=>(HW.out.trans (H15.out.1.trans a18 (fun _=>fEq)) (fun _=>fEq)).trans a (fun _=>fEq)
 have hx:=fun wz (a:Adds w18 wz)=>ZK (bs:=Tag.CJ) (Bytes.row (by have:=a.row r18 id;rw[HE.out.2.2] at this;exact this) (Tag.AT _ _) (by unfold maxLen;omega)) (by rw[Tag.J9];decide) (by rw[Tag.J9];decide)
 rw[Uq] at hx;have hs0:∀w0:World,(Instr.sliceAt 35 (.pointer (some ⟨B16,0,none⟩)) none none none).run Tryz.prog w0=.ok (.slice (some ⟨B16,0,none⟩) 32 32) w0:=fun w0=>CK w0 35 32 (by kernel_rfl) (by kernel_rfl) (by kernel_rfl) _ _
 have H18:=(hIq (a18.row H15.out.2.1 id) (aIq (a18.row H15.out.2.2.1 id) (aIq (a18.row H15.out.2.2.2 id) (aIq r18 (aIq hfin hx)))))
 clear a18 r18 hw18 hB16 hfin hx;refine AO (fun w0=>w0.heap[B8]?=some (.cells R 35 (0,0))∧w0.heap[B14]?=some (.cells X1 35 (0,0))∧w0.heap[B15]?=some (.cells X2 35 (0,0))∧Adds w18 w0) 14 [(0,false),(1,false),(2,false),(3,false),(4,false),(5,false),(6,true),(7,false),(8,false),(9,false),(10,false),(11,true),(12,false),(13,false)] (by kernel_rfl) (by kernel_rfl) ?_ ?_
 · exact⟨AP H18.out.1,AP H18.out.2.1,AP H18.out.2.2.1,(Ch.refl _ _).drew⟩
 refine plan_look rfl rfl (fun w0 hS=>(by clear hS;go_simp;try rfl)) ?_;simp only[Act.put,nAq,nBq,nCq]
 iterate 2
  refine plan_look (v:=.bool true) rfl rfl (fun w0 hS=>(by clear hS;go_simp;try rfl)) ?_;simp only[Act.put,nAq,nBq,nCq]
 refine Law9.Aw (cur:=R) (t:=35) (fr:=(0,0)) rfl rfl 35 _ rfl B8 0 32 rfl (fun w0 hS=>hS.1) Tryz.underlying35 rfl Be (by rw[HRs.out.1];exact Nat.le_refl _) R (by have:=HRs.out.1;simp[←this]) ?_;simp only[Act.put,nAq,nBq,nCq];refine Law9.Aw (cur:=X1) (t:=35) (fr:=(0,0)) rfl rfl 35 _ rfl B14 0 32 rfl (fun w0 hS=>hS.2.1) Tryz.underlying35 rfl Be (by rw[HX1.out.1];exact Nat.le_refl _) X1 (by have:=HX1.out.1;simp[←this]) ?_;simp only[Act.put,nAq,nBq,nCq];refine Law9.Aw (cur:=X2) (t:=35) (fr:=(0,0)) rfl rfl 35 _ rfl B15 0 32 rfl (fun w0 hS=>hS.2.2.1) Tryz.underlying35 rfl Be (by rw[HX2.out.1];exact Nat.le_refl _) X2 (by have:=HX2.out.1;simp[←this]) ?_;simp only[Act.put,nAq,nBq,nCq];refine AV rfl ?_;go_wp2_with fail;refine(HT.out.1 _).mono ?_;rintro e w19 ⟨rfl,a19⟩;have A19:=Lib.hid (((Ch.refl (fun _=>False) w18).drew).trans a19 (fun _=>fEq));clear a19;dsimp only;go_step;refine wpList_nil ?_;change _∧_;refine⟨⟨A19.out.row H18.out.1 id,A19.out.row H18.out.2.1 id,A19.out.row H18.out.2.2.1 id,A19.out⟩,?_⟩;refine plan_look (v:=.bool true) rfl rfl (fun w0 hS=>(by have hq:=HEQ.out w0;rw[run_eql_struct] at hq;clear hS;go_simp)) ?_;simp only[Act.put,nAq,nBq,nCq]
 iterate 2
  refine plan_look (v:=.bool true) rfl rfl (fun w0 hS=>(by clear hS;go_simp;try rfl)) ?_;simp only[Act.put,nAq,nBq,nCq]
 refine plan_look (v:=.slice (some ⟨B16,0,none⟩) 32 32) rfl rfl (fun w0 hS=>(by have:=hs0 w0;clear hS;go_simp;try rfl)) ?_;simp only[Act.put,nAq,nBq,nCq];refine AV rfl ?_;go_wp2_with fail;refine(H18.out.2.2.2.2.2 _ A19.out).mono ?_;rintro e w20 ⟨rfl,a20⟩;have A20:=Lib.hid (A19.out.trans a20 (fun _=>fEq));clear a20;dsimp only;go_step;refine wpList_nil ?_;change _∧_;refine⟨⟨A20.out.row H18.out.1 id,A20.out.row H18.out.2.1 id,A20.out.row H18.out.2.2.1 id,A20.out⟩,?_⟩
 iterate 2
  refine plan_look (v:=.bool true) rfl rfl (fun w0 hS=>(by clear hS;go_simp;try rfl)) ?_;simp only[Act.put,nAq,nBq,nCq]
 refine AZ ?_;simp only[List.drop_succ_cons,List.drop_zero];go_wp2;refine NoPanic.normal ?_;go_wp2;go_ret;exact⟨rfl,H18.out.2.2.2.2.1 _ A20.out⟩
structure Small (n:Nat) (L:AS) (M:Nmd):Prop where
 now:L.length≤n
 each:∀p∈M,p.2.2.length≤n
section
variable {w0 w w' : World} {d v s room tn : Nat} {G : Nat→Prop} {σ σ' : AD Nd} {root r : Int} {L L' : AS} {M M' : Nmd} {x key : List UInt8} {a : CE} {n m : Nat}
theorem Small.le (h:Small n L M) (hn:n≤m):Small m L M:=⟨Nat.le_trans h.now hn,fun p hp=>Nat.le_trans (h.each p hp) hn⟩
theorem Small.more (h:Small n L M) (k:Nat):Small (n+k) L M:=h.le (Nat.le_add_right _ _)
theorem Small.put (h:Small n L M) (σ:AD Nd) (key bs:List UInt8):Small (n+1) (JM σ L key bs) M:=by
 refine⟨?_,fun p hp=>Nat.le_succ_of_le (h.each p hp)⟩;have:=h.now;unfold JM;split
 · unfold upd Bm
   have:=List.length_filter_le (fun p => !(p.1 == key)) L;simp only[List.length_cons];omega
 omega
theorem Small.del (h:Small n L M) (σ:AD Nd) (key:List UInt8):Small n (MP σ L key) M:=by
 refine⟨?_,h.each⟩;have:=h.now;unfold MP;split
 · unfold Bm
   have:=List.length_filter_le (fun p => !(p.1 == key)) L;omega
 omega
theorem SS (L:AS) (W:Wps):(CT L W).length≤L.length+W.length:=by
 unfold CT FZ;rw[List.length_append];have h1:=List.length_filterMap_le (fun p:List UInt8×Option (List UInt8)=>p.2.map fun v=>(p.1,v)) W;have h2:=List.length_filter_le (fun p => !decide (p.1∈Fq W)) L;omega
theorem Small.bat (h:Small n L M) {l:List Ay} {er:Int} (hb:VD σ l L L' er):Small (n+l.length) L' M:=by
 refine⟨?_,fun p hp=>Nat.le_trans (h.each p hp) (Nat.le_add_right _ _)⟩;have:=h.now;rcases hb with⟨_,_,rfl⟩|⟨_,k,_,_,⟨_,rfl⟩|⟨_,l',h1,rfl⟩⟩
 · omega
 · omega
 have h2:=SS L (l'.map Wm.wp);have h3:=h1.len;rw[List.length_map] at h2 h3;omega
theorem Small.bW (h:Small n L M) {er:Int} (hr:(x∉EL M∧er=7∧L'=L)∨(er=0∧∃p∈M,p.1=x∧L'=p.2.2)):Small n L' M:=by
 refine⟨?_,h.each⟩;rcases hr with⟨_,_,rfl⟩|⟨_,p,hp,_,rfl⟩
 · exact h.now
 exact h.each p hp
theorem Small.snap (h:Small n L M) (x:List UInt8) (root:Int):Small n L ((x,root,L)::M):=⟨h.now,fun p hp=>by
 rcases List.mem_cons.1 hp with rfl|hp
 · exact h.now
 exact h.each p hp⟩
theorem Small.cut (h:Small n L M) (x:List UInt8):Small n L (JZ M x):=⟨h.now,fun p hp=>h.each p (List.mem_filter.1 hp).1⟩
def WT (w0 w:World) (d v s:Nat) (G:Nat→Prop) (room:Nat) (σ:AD Nd) (L:AS) (M:Nmd) (tn:Nat) (a:CE) (e:Ending) (w':World):Prop :=
 e=.returned (.tuple #[])∧∃σ' r L' M',DStep w0 w w' d v s G room σ σ' r L' M' tn (ED a)∧Kept M M' a.nm∧∀n,Small n L M→Small (n+max 1 a.l.length) L' M'
theorem Xd (h:Dct w0 w d v s G room σ root L M tn) (ha:a.Good w0) (hn:a.l.length*56≤140737488351232) (htn:tn≤400000000):Calls Tryz.prog 16 #[.pointer (some ⟨d,0,none⟩),.agg a.cells] w (WT w0 w d v s G room σ L M tn a):=by
 have haw:a.Good w:=ha.Af h.world (fun _=>fEq);obtain⟨C,hC⟩:∃C,C=a.cells:=⟨_,rfl⟩
 obtain⟨S,hS⟩:∃S,S=BP a.nm:=⟨_,rfl⟩
 obtain⟨kd,hkd⟩:∃kd,kd=a.kind:=⟨_,rfl⟩
 obtain⟨kv,hkv⟩:∃kv,kv=a.kv:=⟨_,rfl⟩
 obtain⟨vv,hvv⟩:∃vv,vv=a.vv:=⟨_,rfl⟩
 have q0:C[0]?=some (.int .u8 kd):=by rw[hC,hkd];rfl
 have q1:C[1]?=some (.string S):=by rw[hC,hS];rfl
 have q2:C[2]?=some kv:=by rw[hC,hkv];rfl
 have q3:C[3]?=some vv:=by rw[hC,hvv];rfl
 have q4:C[4]?=some (.slice a.ao a.l.length a.cap):=by rw[hC];rfl
 obtain⟨len,hlen⟩:∃len,len=a.l.length:=⟨_,rfl⟩
 rw[←hlen] at q4;have HQ:=(hIq q0 (aIq q1 (aIq q2 (aIq q3 q4))))
 have HH:=(hIq h (aIq ha (aIq haw (aIq hn htn))))
 have HE:=(hIq hS (aIq hkd (aIq hkv (aIq hvv hlen))))
 rw[←hC];clear q0 q1 q2 q3 q4 h ha haw hn htn hC hS hkd hkv hvv hlen;go_enter Tryz.func16,Tryz.ntmps16;go_upto_region 1 with fail;refine BJ (fun w1 hw1=>?_);have a1:Adds w w1:=by rw[hw1];exact(Ch.refl _ _).alloc _
 have r1:w1.heap[w.heap.size]?=some (.cells C 32 (0,0)):=by rw[hw1];exact heap_alloc_new _ _
 have b0:=AH r1 HQ.out.1;have b1:=AH r1 HQ.out.2.1;have b2:=AH r1 HQ.out.2.2.1;have b3:=AH r1 HQ.out.2.2.2.1;have b4:=AH r1 HQ.out.2.2.2.2;have A1:=Lib.hid a1;clear a1 r1 hw1;by_cases k0:kd=0
 · have hc:=OQ (HH.out.1.adds A1.out) (kv:=kv) (vv:=vv) (key:=a.kb) (bs:=a.vb) (by rw[HE.out.2.2.1];exact HH.out.2.2.1.key.Af A1.out (fun _ _ h=>h)) (by rw[HE.out.2.2.2.1];exact HH.out.2.2.1.val.Af A1.out (fun _ _ h=>h)) (fun h0 k hk=>Nat.lt_of_lt_of_le (HH.out.2.2.1.vblk h0 k (by rw[←HE.out.2.2.2.1];exact hk)) A1.out.size) (by have:=HH.out.2.2.2.2;omega)
   have HC:=(hIq hc k0)
   have hdm:ED a=258:=by unfold ED;rw[←HE.out.2.1,k0];rfl
   have HDM:=Lib.hid hdm;subst k0;clear hc hdm;go_wp2_with fail;refine HC.out.1.mono ?_;rintro e w2 ⟨rfl,σ',r,hs⟩;have HS:=Lib.hid hs;clear hs b0 b1 b2 b3 b4;go_wp2;go_end0;exact⟨rfl,σ',r,_,M,HS.out.pre A1.out (by have:=HDM.out;have:=HE.out.2.2.2.2;omega),Kept.refl _ _,fun n h=>(h.put _ _ _).le (by omega)⟩
 ·
  by_cases k1:kd=1
  · have hc:=Q0 (HH.out.1.adds A1.out) (kv:=kv) (key:=a.kb) (by rw[HE.out.2.2.1];exact HH.out.2.2.1.key.Af A1.out (fun _ _ h=>h)) (by have:=HH.out.2.2.2.2;omega)
    have HC:=(hIq hc k1)
    have hdm:ED a=258:=by unfold ED;rw[←HE.out.2.1,k1];rfl
    have HDM:=Lib.hid hdm;subst k1;clear hc hdm;go_wp2_with fail;refine HC.out.1.mono ?_;rintro e w2 ⟨rfl,σ',r,hs⟩;have HS:=Lib.hid hs;clear hs b0 b1 b2 b3 b4;go_wp2;go_end0;exact⟨rfl,σ',r,_,M,HS.out.pre A1.out (by have:=HDM.out;have:=HE.out.2.2.2.2;omega),Kept.refl _ _,fun n h=>(h.del _ _).more _⟩
  ·
   by_cases k2:kd=2
   · have hc:=Sk (HH.out.1.adds A1.out) a.cap HH.out.2.1.raws HH.out.2.2.2.1 (by have:=HH.out.2.2.2.2;omega)
     rw[←HE.out.2.2.2.2] at hc;have HC:=(hIq hc k2)
     have hdm:ED a=258*a.l.length:=by unfold ED;rw[←HE.out.2.1,k2];rfl
     have HDM:=Lib.hid hdm;subst k2;clear hc hdm;go_wp2_with fail;refine HC.out.1.mono ?_;rintro e w2 ⟨er,σ',r,L',rfl,hs,hbt⟩;have HS:=Lib.hid hs;have HB2:=Lib.hid hbt;clear hs hbt b0 b1 b2 b3 b4;go_wp2;go_end0;exact⟨rfl,σ',r,L',M,HS.out.pre A1.out (by have:=HDM.out;have:=HE.out.2.2.2.2;omega),Kept.refl _ _,fun n h=>(h.bat HB2.out).le (by omega)⟩
   ·
    by_cases k7:kd=7
    · have hc:=Oc (HH.out.1.adds A1.out) HH.out.2.1.nm HH.out.2.2.2.2
      rw[←HE.out.1] at hc;have HC:=(hIq hc k7)
      have hdm:ED a=0:=by unfold ED;rw[←HE.out.2.1,k7];rfl
      have HDM:=Lib.hid hdm;subst k7;clear hc hdm;go_wp2_with fail;refine HC.out.1.mono ?_;rintro e w2 ⟨σ',M',er,rfl,hs,hc⟩;have HS:=(hIq hs hc)
      clear hs hc b0 b1 b2 b3 b4;go_wp2;go_end0
      exact⟨rfl,σ',_,_,M',HS.out.1.pre A1.out (by have:=HDM.out;have:=HE.out.2.2.2.2;omega),(by
       rcases HS.out.2 with⟨_,_,e⟩|⟨_,_,_,e⟩|⟨h0,hno,_,e⟩
       · rw[e];exact Kept.refl _ _
       · rw[e];exact Kept.refl _ _
       · rw[e]
         unfold FK at h0;by_cases hn:DP a.nm=false
         · rw[if_pos hn] at h0;cases h0
         rw[if_neg hn] at h0;refine⟨fun p hp _=>List.mem_cons_of_mem _ hp,fun p hp=>(List.mem_cons.1 hp).elim (fun e=>.inr (by rw[e])) .inl,fun _=>?_,fun hf p hp=>(List.mem_cons.1 hp).elim (fun e=>by rw[e];simpa using hn) (hf p)⟩;by_cases hm:16≤M.length
         · rw[if_pos hm] at h0;cases h0
         simp only[List.length_cons];omega),fun n h=>by
       rcases HS.out.2 with⟨_,_,e⟩|⟨_,_,_,e⟩|⟨_,_,_,e⟩
       · rw[e];exact h.more _
       · rw[e];exact h.more _
       rw[e];exact(h.snap _ _).more _⟩
    ·
     by_cases k8:kd=8
     · have hc:=Oo (HH.out.1.adds A1.out) HH.out.2.1.nm (by have:=HH.out.2.2.2.2;omega)
       rw[←HE.out.1] at hc;have HC:=(hIq hc k8)
       have hdm:ED a=0:=by unfold ED;rw[←HE.out.2.1,k8];rfl
       have HDM:=Lib.hid hdm;subst k8;clear hc hdm;go_wp2_with fail;refine HC.out.1.mono ?_;rintro e w2 ⟨σ',r',L',er,rfl,hs,hrl⟩;have HS:=Lib.hid hs;have HS2:=Lib.hid hrl;clear hs hrl b0 b1 b2 b3 b4;go_wp2;go_end0;exact⟨rfl,σ',r',L',M,HS.out.pre A1.out (by have:=HDM.out;have:=HE.out.2.2.2.2;omega),Kept.refl _ _,fun n h=>(h.bW HS2.out).more _⟩
     ·
      by_cases k9:kd=9
      · have hc:=UY (HH.out.1.adds A1.out) HH.out.2.1.nm
        rw[←HE.out.1] at hc;have HC:=(hIq hc k9)
        have hdm:ED a=0:=by unfold ED;rw[←HE.out.2.1,k9];rfl
        have HDM:=Lib.hid hdm;subst k9;clear hc hdm;go_wp2_with fail;refine HC.out.1.mono ?_;rintro e w2 ⟨σ',M',er,rfl,hs,hc⟩;have HS:=(hIq hs hc)
        clear hs hc b0 b1 b2 b3 b4;go_wp2;go_end0
        exact⟨rfl,σ',_,_,M',HS.out.1.pre A1.out (by have:=HDM.out;have:=HE.out.2.2.2.2;omega),(by
         rcases HS.out.2 with⟨_,_,e⟩|⟨_,_,e⟩
         · rw[e];exact Kept.refl _ _
         · rw[e];exact Kept.cut _ _),fun n h=>by
         rcases HS.out.2 with⟨_,_,e⟩|⟨_,_,e⟩
         · rw[e];exact h.more _
         rw[e];exact(h.cut _).more _⟩
      ·
       clear b1 b2 b3 b4;go_wp2;go_end0;exact⟨rfl,σ,root,L,M,HH.out.1.stay A1.out _,Kept.refl _ _,fun n h=>h.more _⟩
end
end Go.Proofs.YtngbdbpofifimaaGreat.Law15
