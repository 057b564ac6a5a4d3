/- Laws of the layers below. -/
import Derived.Test.YtngbdbpofifimaaGreatQk38
import Derived.Deep.OwnRows
set_option maxHeartbeats 3200000
set_option maxRecDepth 100000
set_option linter.unusedVariables false
namespace Go.Proofs.YtngbdbpofifimaaGreat.Law15
open Go.RowKit Go.Sort Go.Proofs.YtngbdbpofifimaaGreat.ShaW Go.Proofs.YtngbdbpofifimaaGreat.Path Go.Proofs.YtngbdbpofifimaaGreat.Store Go.Proofs.YtngbdbpofifimaaGreat.Law9 Go.Proofs.YtngbdbpofifimaaGreat.Law14
theorem MA {σ:AA Nd} {root:Int} {L:AM} {R:List (Int×AM)} {key bs:List UInt8} (D:Roots σ ((root,L)::R)) (h32:key.length=32) (hb:bs.length≤1024) (hr:Store.live σ+258≤σ.room):CI σ key bs=0∧Jd σ L key bs=upd L key bs:=by
 have e:CI σ key bs=0:=by
  unfold CI Dj;rw[if_pos h32,if_neg (by omega),Ds,D.good.used,decide_eq_true hr,if_pos rfl]
 exact⟨e,by unfold Jd;rw[if_pos e]⟩
theorem Vf {w:World} {g:Nat} {fr:Nat×Nat} (h:w.heap[g]?=some (.cells #[.int .u8 97] 5 fr)):Bytes w (.slice (some ⟨g,0,none⟩) 1 1) [97]:=Bytes.row (bs := [97]) h rfl (by unfold maxLen;omega)
theorem Dct.Vw {w0 w w':World} {d v s room tn:Nat} {G:Nat→Prop} {σ:AA Nd} {root:Int} {L:AM} {M:Nmd} (h:Dct w0 w d v s G room σ root L M tn) (a:Adds w w') {N:Nat→Prop} (hN:∀k,N k→w.heap.size≤k∧k<w'.heap.size):Dct w0 w' d v s (fun k=>G k∨N k) room σ root L M tn:=by
 have hd:=Ag h.cell;refine⟨a.row h.cell id,h.vs.more a (fun k hk=>?_),h.rts,h.room,h.total,h.base.1,fun hk=>hk.elim h.base.2 (fun e=>by have:=hN _ e;omega)⟩;rcases hk with hk|hk|hk
 · exact .inl (.inl hk)
 · exact .inl (.inr hk)
 exact .inr (hN k hk)
theorem Tf (w:World):Calls Tryz.prog 9 #[] w fun e w'=>e=.returned (.bool true)∧Adds w w':=by
 have hmk:∀w:World,(Instr.makeSlice 29 (.int .i64 32) (.int .i64 32)).run Tryz.prog w=.ok (.slice (some ⟨w.heap.size,0,none⟩) 32 32) (w.alloc (.cells (madeCells #[.int .u8 0] 32) 5)):=fun w =>
  run_make_row' 29 5 (.int .u8 0) 1 Tryz.underlying29 (by kernel_rfl) rfl .i64 .i64 32 (by omega) (by omega) w
 obtain⟨MC,hMC⟩:∃MC,MC=madeCells #[Value.int .u8 0] 32:=⟨_,rfl⟩
 have hmc:MC=AK CF:=by rw[hMC];kernel_rfl
 have hmh:MC.setIfInBounds 0 (.int .u8 128)=AK CK:=by rw[hmc];rfl
 have hm0:MC[0]?=some (.int .u8 0):=by rw[hmc];rfl
 rw[←hMC] at hmk;have HMC:=(hIq hmc (aIq hmh hm0))
 have HNW:=Lib.hid (QI 600 w (by decide) (by decide));clear hMC hmc hmh hm0;go_enter Tryz.func9,Tryz.ntmps9;go_wp2_with fail;refine HNW.out.mono ?_;rintro e w1 ⟨d,v,s,rfl,hd⟩;have HD:=Lib.hid hd;clear hd HNW;go_upto_region 4 with fail;go_cut [3,4] (fun s3 s4 wx=>∃b1 b2,s3=.slice (some ⟨b1,0,none⟩) 32 32∧s4=.slice (some ⟨b2,0,none⟩) 32 32∧b1≠b2∧w1.heap.size≤b1∧w1.heap.size≤b2∧wx.heap[b1]?=some (.cells MC 5 (0,0))∧wx.heap[b2]?=some (.cells MC 5 (0,0))∧Adds w1 wx)
 case first =>
  refine DK 1 (fun _=>True) 3 [(0,true),(2,false)] (by kernel_rfl) (by kernel_rfl) trivial ?_;refine Fc rfl rfl ?_ ?_
  · go_wp2
    refine⟨trivial,?_⟩;refine planF_look rfl rfl (fun w0 hS=>(by clear hS;go_simp;try rfl)) ?_;simp only[Act.put,nAq,nBq,nCq];refine F8 rfl ?_;go_wp2;refine⟨trivial,?_⟩;refine Ab ?_;simp only[List.drop_succ_cons,List.drop_zero];go_wp2;refine NoPanic.normal ?_;go_wp2;go_meet;exact⟨w1.heap.size,w1.heap.size+1,rfl,by simp,by omega,by omega,by omega,AI (heap_alloc_new w1.drew _) _,(by have:=heap_alloc_new (w1.alloc (.cells MC 5)) (.cells MC 5);rw[World.size_alloc] at this;exact this),((Ch.refl _ _).drew.alloc _).alloc _⟩
  go_wp2;refine⟨trivial,?_⟩;refine AY rfl ?_;go_wp2;refine⟨trivial,?_⟩;refine plan_look rfl rfl (fun w0 hS=>(by clear hS;go_simp;try rfl)) ?_;simp only[Act.put,nAq,nBq,nCq];refine Ab ?_;simp only[List.drop_succ_cons,List.drop_zero];go_wp2;refine NoPanic.normal ?_;go_wp2;go_meet;exact⟨w1.heap.size+1,w1.heap.size,by simp,rfl,by omega,by omega,by omega,(by have:=heap_alloc_new (w1.alloc (.cells MC 5)) (.cells MC 5);rw[World.size_alloc] at this;exact this),AI (heap_alloc_new w1.drew _) _,((Ch.refl _ _).drew.alloc _).alloc _⟩
 obtain⟨b1,b2,rfl,rfl,hne,hb1,hb2,r1,r2,a2⟩:=hcut;have c0:=AE r2 (i:=0) HMC.out.2.2;have f0:=Ah r2 0;have l0:=Ag r2;have HR:=(hIq r1 (aIq r2 (aIq a2 (aIq hne (aIq hb1 hb2)))))
 clear r1 r2 a2 hne hb1 hb2;go_upto_region 6 with fail;refine Bs (fun w3 hw3=>?_);have rz:w3.heap[b1]?=some (.cells (AK CF) 5 (0,0)):=by rw[hw3, ←HMC.out.1];exact Aq HR.out.1 HR.out.2.2.2.1 _
 have ry:w3.heap[b2]?=some (.cells (AK CK) 5 (0,0)):=by rw[hw3, ←HMC.out.2.1];exact AP HR.out.2.1 0 _
 have a3:Adds w1 w3:=by rw[hw3];exact HR.out.2.2.1.setCell (.inr HR.out.2.2.2.2.2) _
 have zb:∀w9,Adds w3 w9→Bytes w9 (.slice (some ⟨b1,0,none⟩) 32 32) CF:=fun w9 a=>Bytes.row (bs:=CF) (n:=32) (a.row rz id) rfl (by unfold maxLen;omega)
 have yb:∀w9,Adds w3 w9→Bytes w9 (.slice (some ⟨b2,0,none⟩) 32 32) CK:=fun w9 a=>Bytes.row (bs:=CK) (n:=32) (a.row ry id) rfl (by unfold maxLen;omega)
 have d3:=HD.out.Vw a3 (N:=fun k=>k=b1∨k=b2) (fun k hk=>by
  rcases hk with rfl|rfl
  · exact⟨HR.out.2.2.2.2.1,Ag rz⟩
  exact⟨HR.out.2.2.2.2.2,Ag ry⟩)
 have e1:=MA (key:=CF) (bs := [97]) d3.rts rfl (by decide) (by show 0+258≤600;omega);have hp1:=fun w9 (a:Adds w3 w9) (h97:w9.heap[w3.heap.size]?=some (.cells #[.int .u8 97] 5 (1,2)))=>Mk (d3.adds a) (zb w9 a) (Vf h97) (fun _ k hk=>by cases hk;exact Ag h97) (by omega)
 rw[e1.1,e1.2] at hp1;have kc0:=Lib.run_convert_bytes_const (P:=Tryz.prog) w3 29 5 #[.int .u8 97] 1 1 Tryz.underlying29 Tryz.underlying5;have HP:=(hIq hp1 (aIq rz (aIq ry d3.world)))
 clear rz ry a3 zb yb d3 e1 hp1 hw3 c0 f0 l0 HR hmk;go_wp2_with fail;refine(HP.out.1 _ ((Ch.refl _ _).alloc _) (heap_alloc_new _ _)).mono ?_;rintro e w4 ⟨rfl,σ1,r1,hs1⟩;have rz4:=hs1.but.row (((Ch.refl (fun _=>False) w3).alloc (.cells #[.int .u8 97] 5 (1,2))).row HP.out.2.1 id) (.inr (.inl rfl));have ry4:=hs1.but.row (((Ch.refl (fun _=>False) w3).alloc (.cells #[.int .u8 97] 5 (1,2))).row HP.out.2.2.1 id) (.inr (.inr rfl));have e2:=MA (key:=CK) (bs := []) hs1.dct.rts rfl (by decide) (by have h1:=hs1.live;have h2:=hs1.dct.room;have h3:Store.live (⟨600,[],[]⟩:AA Nd)=0:=rfl;omega);have hp2:=Mk hs1.dct (Bytes.row (bs:=CK) (n:=32) ry4 rfl (by unfold maxLen;omega)) (Bytes.nil w4) (fun h=>absurd rfl h) (by omega);rw[e2.1,e2.2] at hp2;have HP2:=(hIq hp2 (aIq rz4 ry4))
 clear rz4 ry4 e2 hp2 hs1 kc0 HP;go_wp2_with fail;refine HP2.out.1.mono ?_;rintro e w5 ⟨rfl,σ2,r2,hs2⟩;have rz5:=hs2.but.row HP2.out.2.1 (.inr (.inl rfl));have ry5:=hs2.but.row HP2.out.2.2 (.inr (.inr rfl));have d5:=hs2.dct;have hN:([]:List UInt8)∈Dn []:=List.mem_cons_self ..;have hE:GH (upd (upd [] CF [97]) CK []) [] []=upd (upd [] CF [97]) CK []:=if_pos rfl;have hlen:(upd (upd [] CF [97]) CK []).length=2:=by rw[F0];rfl
 have hgt:=fun w9 (a:Adds w5 w9)=>Ty (d5.adds a) hN (Bytes.row (bs:=CF) (n:=32) (a.row rz5 id) rfl (by unfold maxLen;omega)) rfl
 have hrt:=fun w9 (a:Adds w5 w9)=>I9 (d5.adds a) hN
 have hln:=fun w9 (a:Adds w5 w9)=>Sj (d5.adds a) hN
 have hoc:=fun w9 (a:Adds w5 w9)=>ET (d5.adds a)
 have hof:=fun w9 (a:Adds w5 w9)=>Kl (Bytes.row (bs:=CK) (n:=32) (a.row ry5 id) rfl (by unfold maxLen;omega)) rfl
 rw[hE] at hgt hrt hln;rw[hlen] at hln;rw[Ry] at hrt;rw[Px d5.rts] at hoc;obtain⟨D1,hD1⟩:∃D,D=Tag.Dd CF (Tag.BE [97]):=⟨_,rfl⟩
 obtain⟨D2,hD2⟩:∃D,D=Tag.Dd CK (Tag.BE []):=⟨_,rfl⟩
 have h1l:D1.length=32:=by rw[hD1];exact Tag.AZ _ _
 have h2l:D2.length=32:=by rw[hD2];exact Tag.AZ _ _
 rw[←hD1, ←hD2] at hrt;have hin:=fun w9=>Tag.IK D1 D2 h1l h2l w9
 obtain⟨R,hR⟩:∃R,R=AK (Tag.EL D1 D2):=⟨_,rfl⟩
 rw[←hR] at hrt hin;obtain⟨X1,hX1⟩:∃X,X=AK D1:=⟨_,rfl⟩
 obtain⟨X2,hX2⟩:∃X,X=AK D2:=⟨_,rfl⟩
 rw[←hX1, ←hX2] at hin;have hl1:=fun w9=>Tag.Ip CF (Tag.BE [97]) rfl (Tag.AZ _ _) w9
 have hl2:=fun w9=>Tag.Ip CK (Tag.BE []) rfl (Tag.AZ _ _) w9
 rw[←hD1, ←hX1] at hl1;rw[←hD2, ←hX2] at hl2;have hv1:=fun(w9:World) (g:Nat) (h97:w9.heap[g]?=some (.cells #[.int .u8 97] 5 (1,2)))=>Tag.D6 (Vf h97) (fun _ k hk=>by cases hk;exact Ag h97) (by decide)
 have hv2:=fun w9=>Tag.D6 (Bytes.nil w9) (fun h=>absurd rfl h) (by decide)
 obtain⟨V1,hV1⟩:∃X,X=AK (Tag.BE [97]):=⟨_,rfl⟩
 obtain⟨V2,hV2⟩:∃X,X=AK (Tag.BE []):=⟨_,rfl⟩
 rw[←hV1] at hl1 hv1;rw[←hV2] at hl2 hv2;obtain⟨Z,hZ⟩:∃X,X=AK CF:=⟨_,rfl⟩
 obtain⟨Y,hY⟩:∃X,X=AK CK:=⟨_,rfl⟩
 rw[←hZ] at hl1;rw[←hY] at hl2 hof;have hzb:Tryz.prog.built 47 []=some Z:=by rw[hZ];exact Q5
 have hem:=fun w9=>Tag.O2 w9
 obtain⟨E,hEm⟩:∃X,X=AK Tag.Ee:=⟨_,rfl⟩
 rw[←hEm] at hem;have HQ:=(hIq hgt (aIq hrt (aIq hln (aIq hoc hof))))
 have HT:=(hIq hin (aIq hl1 (aIq hl2 (aIq hv1 (aIq hv2 (aIq hzb hem))))))
 have HRs:=(hIq (show R.size=32 by rw[hR,AO];exact Tag.AZ _ _) (show ∀v∈R.toList,v.oneCell'=true by rw[hR];exact Ao _))
 have HX1:=(hIq (show X1.size=32 by rw[hX1,AO,h1l]) (show ∀v∈X1.toList,v.oneCell'=true by rw[hX1];exact Ao _))
 have HX2:=(hIq (show X2.size=32 by rw[hX2,AO,h2l]) (show ∀v∈X2.toList,v.oneCell'=true by rw[hX2];exact Ao _))
 have HY:=(hIq (show Y.size=32 by rw[hY];rfl) (show ∀v∈Y.toList,v.oneCell'=true by rw[hY];exact Ao _))
 have HE:=(hIq (show E.size=32 by rw[hEm,AO];exact Tag.AZ _ _) (aIq (show ∀v∈E.toList,v.oneCell'=true by rw[hEm];exact Ao _) hEm))
 have heq:=fun w9=>GS 35 Tryz.underlying35 (Tag.EL D1 D2) (Tag.EL D1 D2) (Tag.AZ _ _) (Tag.AZ _ _) w9
 simp only[←hR,decide_true] at heq;have HEQ:=Lib.hid heq;have HW:=Lib.hid d5.world;clear rz5 ry5 d5 hN hE hlen hgt hrt hln hoc hof hin hl1 hl2 hv1 hv2 hzb hem hR hX1 hX2 hV1 hV2 hZ hY hEm h1l h2l hD1 hD2 heq hs2 HP2;go_upto_region 8 with fail;go_wp2_with fail;refine(HQ.out.1 _ (Ch.refl _ _)).mono ?_;rintro e w6 ⟨a6,hc⟩;rcases hc with⟨hno,_⟩|⟨bs,v6,hm,rfl,hb6,_⟩
 · exact absurd Nq hno
 obtain rfl:=Qx hm;obtain⟨vo,vc,hv6,_,_⟩:=hb6.form;change v6=.slice vo 1 vc at hv6;subst hv6;have hcv:∀w9,Adds w6 w9→(convert 29 9 (.slice vo 1 vc)).run Tryz.prog w9=.ok (.string { data:=#[97] }) w9:=fun w9 a=>Co (hb6.Af a (fun _ _ h=>h))
 have H6:=(hIq a6 hcv)
 clear hb6 hm a6 hcv;go_wp2_with fail;refine(HQ.out.2.1 _ H6.out.1).mono ?_;rintro e w7 ⟨rfl,a7⟩;have A7:=Lib.hid a7;clear a7
 go_upto_region 10 with(first
  | fail
  | ((with_reducible show zOq (.alloc 35));refine AH rfl 35 rfl (.agg (AK (List.replicate 32 0))) Fy ?_;dsimp only[Value.cells];try simp only[World.size_alloc])
  | ((with_reducible show zOq (.store 35 _ _));refine AD rfl 35 _ _ rfl w7.heap.size 0 R rfl rfl (heap_alloc_new _ _) (by rw[Ce,HRs.out.1]) (by rw[HRs.out.1];exact Nat.le_of_eq (Nat.zero_add _)) HRs.out.2 R (by rw[AJ _ _ (by rw[Array.length_toList,Array.length_toList,HRs.out.1];rfl)]) ?_))
 refine Bs (fun w8 hw8=>?_);have a8:Adds w6 w8:=by rw[hw8];exact(A7.out.alloc _).setRow (.inr A7.out.size) _
 have r8:w8.heap[w7.heap.size]?=some (.cells R 35 (0,0)):=by rw[hw8];exact AF (heap_alloc_new w7 (.cells (AK (List.replicate 32 0)) 35)) R
 obtain⟨B8,hB8⟩:∃b,b=w7.heap.size:=⟨_,rfl⟩
 rw[←hB8] at r8 ⊢;have H8:=(hIq a8 (aIq (H6.out.1.trans a8 (fun _=>fEq)) r8))
 clear a8 r8 hw8 hB8;go_wp2_with fail;refine(HQ.out.2.2.1 _ H8.out.2.1).mono ?_;rintro e w9 ⟨rfl,a9⟩;have H9:=(hIq (H8.out.1.trans a9 (fun _=>fEq)) (aIq (H8.out.2.1.trans a9 (fun _=>fEq)) (a9.row H8.out.2.2 id)))
 have kcv:=H6.out.2 w9 H9.out.1;clear a9;go_wp2_with fail;refine(HQ.out.2.2.2.1 _ H9.out.2.1).mono ?_;rintro e w10 ⟨rfl,rfl⟩;clear kcv;go_wp2_with fail;refine(HQ.out.2.2.2.2 _ H9.out.2.1).mono ?_;rintro e w10 ⟨rfl,a10⟩;have A10:=Lib.hid a10;clear a10
 go_upto_region 14 with(first
  | fail
  | ((with_reducible show zOq (.alloc 47));refine AH rfl 47 rfl (.agg (AK (List.replicate 32 0))) GI ?_;dsimp only[Value.cells];try simp only[World.size_alloc])
  | ((with_reducible show zOq (.store 47 _ _));refine AD rfl 47 _ _ rfl w10.heap.size 0 Y rfl rfl (heap_alloc_new _ _) (by rw[Aa,HY.out.1]) (by rw[HY.out.1];exact Nat.le_of_eq (Nat.zero_add _)) HY.out.2 Y (by rw[AJ _ _ (by rw[Array.length_toList,Array.length_toList,HY.out.1];rfl)]) ?_))
 refine Bs (fun w11 hw11=>?_);have a11:Adds w9 w11:=by rw[hw11];exact(A10.out.alloc _).setRow (.inr A10.out.size) _
 have r11:w11.heap[w10.heap.size]?=some (.cells Y 47 (0,0)):=by rw[hw11];exact AF (heap_alloc_new w10 (.cells (AK (List.replicate 32 0)) 47)) Y
 obtain⟨B12,hB12⟩:∃b,b=w10.heap.size:=⟨_,rfl⟩
 rw[←hB12] at r11 ⊢;have kc1:=Lib.run_convert_bytes_const (P:=Tryz.prog) w11 29 5 #[.int .u8 97] 1 1 Tryz.underlying29 Tryz.underlying5;have H11:=(hIq (H9.out.2.1.trans a11 (fun _=>fEq)) (aIq (a11.row H9.out.2.2 id) r11))
 clear a11 r11 hw11 hB12
 go_wp2_with (first
  | fail
  | ((with_reducible show zOq (.build 47 #[]));refine Dl rfl 47 rfl Z HT.out.2.2.2.2.2.1 ?_))
 refine(HT.out.2.2.2.1 _ _ (heap_alloc_new _ _)).mono ?_;rintro e w12 ⟨rfl,a12⟩;clear kc1;have H12:=Lib.hid (((Ch.refl (fun _=>False) w11).alloc (.cells #[.int .u8 97] 5 (1,2))).trans a12 (fun _=>fEq));clear a12;go_wp2_with fail;refine(HT.out.2.1 _).mono ?_;rintro e w13 ⟨rfl,a13⟩;have H13:=Lib.hid (H12.out.trans a13 (fun _=>fEq));clear a13
 go_upto_region 15 with(first
  | fail
  | ((with_reducible show zOq (.alloc 35));refine AH rfl 35 rfl (.agg (AK (List.replicate 32 0))) Fy ?_;dsimp only[Value.cells];try simp only[World.size_alloc])
  | ((with_reducible show zOq (.store 35 _ _));refine AD rfl 35 _ _ rfl w13.heap.size 0 X1 rfl rfl (heap_alloc_new _ _) (by rw[Ce,HX1.out.1]) (by rw[HX1.out.1];exact Nat.le_of_eq (Nat.zero_add _)) HX1.out.2 X1 (by rw[AJ _ _ (by rw[Array.length_toList,Array.length_toList,HX1.out.1];rfl)]) ?_))
 refine Bs (fun w14 hw14=>?_);have a14:Adds w11 w14:=by rw[hw14];exact(H13.out.alloc _).setRow (.inr H13.out.size) _
 have r14:w14.heap[w13.heap.size]?=some (.cells X1 35 (0,0)):=by rw[hw14];exact AF (heap_alloc_new w13 (.cells (AK (List.replicate 32 0)) 35)) X1
 obtain⟨B14,hB14⟩:∃b,b=w13.heap.size:=⟨_,rfl⟩
 rw[←hB14] at r14 ⊢;have H14:=(hIq (H11.out.1.trans a14 (fun _=>fEq)) (aIq (a14.row H11.out.2.1 id) (aIq (a14.row H11.out.2.2 id) r14)))
 clear a14 r14 hw14 hB14
 try go_frame
 go_cut [15] (fun s15 wx=>∃b,s15=.pointer (some ⟨b,0,none⟩)∧wx.heap[b]?=some (.cells X2 35 (0,0))∧Adds w14 wx)
 case first =>
  refine DK 3 (fun w0=>w0.heap[B12]?=some (.cells Y 47 (0,0))∧Adds w14 w0) 4 [(0,false),(1,true),(2,true)] (by kernel_rfl) (by kernel_rfl) ⟨AS H14.out.2.2.1,(Ch.refl _ _).drew⟩ ?_;refine Jq (cur:=Y) (t:=47) (fr:=(0,0)) rfl rfl 47 (.tmp 12) rfl B12 0 32 rfl (fun w0 hS=>hS.1) Tryz.underlying47 rfl Aa (by rw[HY.out.1];omega) Y (by simp[←HY.out.1]) ?_;simp only[Act.put,nAq,nBq,nCq];refine Fc rfl rfl ?_ ?_
  · go_wp2_with fail
    refine(HT.out.2.2.2.2.1 _).mono ?_;rintro e w15 ⟨rfl,a⟩;have HA:=Lib.hid (((Ch.refl (fun _=>False) w14).drew).trans a (fun _=>fEq));clear a;dsimp only;go_step;refine wpList_nil ?_;change _∧_;refine⟨⟨HA.out.row H14.out.2.2.1 id,HA.out⟩,?_⟩;refine Fc rfl rfl ?_ ?_
    · go_wp2_with fail
      refine(HT.out.2.2.1 _).mono ?_;rintro e w16 ⟨rfl,a⟩;have HB:=Lib.hid ((HA.out).trans a (fun _=>fEq));clear a;dsimp only;go_step;refine wpList_nil ?_;change _∧_;refine⟨⟨HB.out.row H14.out.2.2.1 id,HB.out⟩,?_⟩;refine F8 rfl ?_
      go_wp2_with (first
       | fail
       | ((with_reducible show zOq (.alloc 35));refine AH rfl 35 rfl (.agg (AK (List.replicate 32 0))) Fy ?_;dsimp only[Value.cells];try simp only[World.size_alloc]))
      refine⟨⟨AI (HB.out.row H14.out.2.2.1 id) _,HB.out.alloc _⟩,?_⟩;have hsz:=HB.out.size;refine Ab ?_;simp only[List.drop_succ_cons,List.drop_zero]
      go_wp2_with (first
       | fail
       | ((with_reducible show zOq (.store 35 _ _));refine AD rfl 35 _ _ rfl w16.heap.size 0 X2 rfl rfl (heap_alloc_new _ _) (by rw[Ce,HX2.out.1]) (by rw[HX2.out.1];exact Nat.le_of_eq (Nat.zero_add _)) HX2.out.2 X2 (by rw[AJ _ _ (by rw[Array.length_toList,Array.length_toList,HX2.out.1];rfl)]) ?_))
      refine NoPanic.normal ?_;go_wp2;go_meet;exact⟨w16.heap.size,rfl,AF ((heap_alloc_new _ _)) X2,(HB.out.alloc _).setRow (.inr (by first|exact Nat.le_refl _|omega)) _⟩
    go_wp2_with (first
     | fail
     | ((with_reducible show zOq (.alloc 35));refine AH rfl 35 rfl (.agg (AK (List.replicate 32 0))) Fy ?_;dsimp only[Value.cells];try simp only[World.size_alloc]))
    refine⟨⟨AI (HA.out.row H14.out.2.2.1 id) _,HA.out.alloc _⟩,?_⟩;refine AY rfl ?_;go_wp2_with fail;refine(HT.out.2.2.1 _).mono ?_;rintro e w16 ⟨rfl,a⟩;have HB:=(hIq ((HA.out.alloc (.cells (AK (List.replicate 32 0)) 35)).trans a (fun _=>fEq)) (a.row (heap_alloc_new w15 (.cells (AK (List.replicate 32 0)) 35)) id))
    clear a;dsimp only;go_step;refine wpList_nil ?_;change _∧_;refine⟨⟨HB.out.1.row H14.out.2.2.1 id,HB.out.1⟩,?_⟩;have hsz:=HA.out.size;refine Ab ?_;simp only[List.drop_succ_cons,List.drop_zero]
    go_wp2_with (first
     | fail
     | ((with_reducible show zOq (.store 35 _ _));refine AD rfl 35 _ _ rfl w15.heap.size 0 X2 rfl rfl HB.out.2 (by rw[Ce,HX2.out.1]) (by rw[HX2.out.1];exact Nat.le_of_eq (Nat.zero_add _)) HX2.out.2 X2 (by rw[AJ _ _ (by rw[Array.length_toList,Array.length_toList,HX2.out.1];rfl)]) ?_))
    refine NoPanic.normal ?_;go_wp2;go_meet;exact⟨w15.heap.size,rfl,AF (HB.out.2) X2,(HB.out.1).setRow (.inr (by first|exact Nat.le_refl _|omega)) _⟩
  go_wp2_with (first
   | fail
   | ((with_reducible show zOq (.alloc 35));refine AH rfl 35 rfl (.agg (AK (List.replicate 32 0))) Fy ?_;dsimp only[Value.cells];try simp only[World.size_alloc]))
  refine⟨⟨AI (AS H14.out.2.2.1) _,(Ch.refl _ _).drew.alloc _⟩,?_⟩;refine AY rfl ?_;go_wp2_with fail;refine(HT.out.2.2.2.2.1 _).mono ?_;rintro e w15 ⟨rfl,a⟩;have HA:=(hIq (((Ch.refl (fun _=>False) w14).drew.alloc (.cells (AK (List.replicate 32 0)) 35)).trans a (fun _=>fEq)) (a.row (heap_alloc_new w14.drew (.cells (AK (List.replicate 32 0)) 35)) id))
  clear a;dsimp only;go_step;refine wpList_nil ?_;change _∧_;refine⟨⟨HA.out.1.row H14.out.2.2.1 id,HA.out.1⟩,?_⟩;refine AY rfl ?_;go_wp2_with fail;refine(HT.out.2.2.1 _).mono ?_;rintro e w16 ⟨rfl,a⟩;have HB:=(hIq ((HA.out.1).trans a (fun _=>fEq)) (a.row (HA.out.2) id))
  clear a;dsimp only;go_step;refine wpList_nil ?_;change _∧_;refine⟨⟨HB.out.1.row H14.out.2.2.1 id,HB.out.1⟩,?_⟩;refine Ab ?_;simp only[List.drop_succ_cons,List.drop_zero]
  go_wp2_with (first
   | fail
   | ((with_reducible show zOq (.store 35 _ _));refine AD rfl 35 _ _ rfl w14.heap.size 0 X2 rfl rfl HB.out.2 (by rw[Ce,HX2.out.1]) (by rw[HX2.out.1];exact Nat.le_of_eq (Nat.zero_add _)) HX2.out.2 X2 (by rw[AJ _ _ (by rw[Array.length_toList,Array.length_toList,HX2.out.1];rfl)]) ?_))
  refine NoPanic.normal ?_;go_wp2;go_meet;exact⟨w14.heap.size,rfl,AF (HB.out.2) X2,(HB.out.1).setRow (.inr (by first|exact Nat.le_refl _|omega)) _⟩
 obtain⟨B15,rfl,r15,a15⟩:=hcut;have H15:=(hIq (H14.out.1.trans a15 (fun _=>fEq)) (aIq (a15.row H14.out.2.1 id) (aIq (a15.row H14.out.2.2.2 id) r15)))
 clear a15 r15;go_wp2_with fail;refine(HT.out.2.2.2.2.2.2 _).mono ?_;rintro e w17 ⟨rfl,a17⟩;have H17:=Lib.hid a17;clear a17
 go_upto_region 17 with(first
  | fail
  | ((with_reducible show zOq (.alloc 35));refine AH rfl 35 rfl (.agg (AK (List.replicate 32 0))) Fy ?_;dsimp only[Value.cells];try simp only[World.size_alloc])
  | ((with_reducible show zOq (.store 35 _ _));refine AD rfl 35 _ _ rfl w17.heap.size 0 E rfl rfl (heap_alloc_new _ _) (by rw[Ce,HE.out.1]) (by rw[HE.out.1];exact Nat.le_of_eq (Nat.zero_add _)) HE.out.2.1 E (by rw[AJ _ _ (by rw[Array.length_toList,Array.length_toList,HE.out.1];rfl)]) ?_))
 refine Bs (fun w18 hw18=>?_);have a18:Adds wc w18:=by rw[hw18];exact(H17.out.alloc _).setRow (.inr H17.out.size) _
 have r18:w18.heap[w17.heap.size]?=some (.cells E 35 (0,0)):=by rw[hw18];exact AF (heap_alloc_new w17 (.cells (AK (List.replicate 32 0)) 35)) E
 obtain⟨B16,hB16⟩:∃b,b=w17.heap.size:=⟨_,rfl⟩
 rw[←hB16] at r18 ⊢;have hfin:∀wz,Adds w18 wz→Adds w wz:=fun wz a=>(HW.out.trans (H15.out.1.trans a18 (fun _=>fEq)) (fun _=>fEq)).trans a (fun _=>fEq)
 have hx:=fun wz (a:Adds w18 wz)=>Vz (bs:=Tag.Ee) (Bytes.row (by have:=a.row r18 id;rw[HE.out.2.2] at this;exact this) (Tag.AZ _ _) (by unfold maxLen;omega)) (by rw[Tag.I8];decide) (by rw[Tag.I8];decide)
 rw[T0] at hx;have hs0:∀w0:World,(Instr.sliceAt 35 (.pointer (some ⟨B16,0,none⟩)) none none none).run Tryz.prog w0=.ok (.slice (some ⟨B16,0,none⟩) 32 32) w0:=fun w0=>Cn w0 35 32 (by kernel_rfl) (by kernel_rfl) (by kernel_rfl) _ _
 have H18:=(hIq (a18.row H15.out.2.1 id) (aIq (a18.row H15.out.2.2.1 id) (aIq (a18.row H15.out.2.2.2 id) (aIq r18 (aIq hfin hx)))))
 clear a18 r18 hw18 hB16 hfin hx;refine AN (fun w0=>w0.heap[B8]?=some (.cells R 35 (0,0))∧w0.heap[B14]?=some (.cells X1 35 (0,0))∧w0.heap[B15]?=some (.cells X2 35 (0,0))∧Adds w18 w0) 14 [(0,false),(1,false),(2,false),(3,false),(4,false),(5,false),(6,true),(7,false),(8,false),(9,false),(10,false),(11,true),(12,false),(13,false)] (by kernel_rfl) (by kernel_rfl) ?_ ?_
 · exact⟨AS H18.out.1,AS H18.out.2.1,AS H18.out.2.2.1,(Ch.refl _ _).drew⟩
 refine plan_look rfl rfl (fun w0 hS=>(by clear hS;go_simp;try rfl)) ?_;simp only[Act.put,nAq,nBq,nCq]
 iterate 2
  refine plan_look (v:=.bool true) rfl rfl (fun w0 hS=>(by clear hS;go_simp;try rfl)) ?_;simp only[Act.put,nAq,nBq,nCq]
 refine Law9.BS (cur:=R) (t:=35) (fr:=(0,0)) rfl rfl 35 _ rfl B8 0 32 rfl (fun w0 hS=>hS.1) Tryz.underlying35 rfl Ce (by rw[HRs.out.1];exact Nat.le_refl _) R (by have:=HRs.out.1;simp[←this]) ?_;simp only[Act.put,nAq,nBq,nCq];refine Law9.BS (cur:=X1) (t:=35) (fr:=(0,0)) rfl rfl 35 _ rfl B14 0 32 rfl (fun w0 hS=>hS.2.1) Tryz.underlying35 rfl Ce (by rw[HX1.out.1];exact Nat.le_refl _) X1 (by have:=HX1.out.1;simp[←this]) ?_;simp only[Act.put,nAq,nBq,nCq];refine Law9.BS (cur:=X2) (t:=35) (fr:=(0,0)) rfl rfl 35 _ rfl B15 0 32 rfl (fun w0 hS=>hS.2.2.1) Tryz.underlying35 rfl Ce (by rw[HX2.out.1];exact Nat.le_refl _) X2 (by have:=HX2.out.1;simp[←this]) ?_;simp only[Act.put,nAq,nBq,nCq];refine AY rfl ?_;go_wp2_with fail;refine(HT.out.1 _).mono ?_;rintro e w19 ⟨rfl,a19⟩;have A19:=Lib.hid (((Ch.refl (fun _=>False) w18).drew).trans a19 (fun _=>fEq));clear a19;dsimp only;go_step;refine wpList_nil ?_;change _∧_;refine⟨⟨A19.out.row H18.out.1 id,A19.out.row H18.out.2.1 id,A19.out.row H18.out.2.2.1 id,A19.out⟩,?_⟩;refine plan_look (v:=.bool true) rfl rfl (fun w0 hS=>(by have hq:=HEQ.out w0;rw[run_eql_struct] at hq;clear hS;go_simp)) ?_;simp only[Act.put,nAq,nBq,nCq]
 iterate 2
  refine plan_look (v:=.bool true) rfl rfl (fun w0 hS=>(by clear hS;go_simp;try rfl)) ?_;simp only[Act.put,nAq,nBq,nCq]
 refine plan_look (v:=.slice (some ⟨B16,0,none⟩) 32 32) rfl rfl (fun w0 hS=>(by have:=hs0 w0;clear hS;go_simp;try rfl)) ?_;simp only[Act.put,nAq,nBq,nCq];refine AY rfl ?_;go_wp2_with fail;refine(H18.out.2.2.2.2.2 _ A19.out).mono ?_;rintro e w20 ⟨rfl,a20⟩;have A20:=Lib.hid (A19.out.trans a20 (fun _=>fEq));clear a20;dsimp only;go_step;refine wpList_nil ?_;change _∧_;refine⟨⟨A20.out.row H18.out.1 id,A20.out.row H18.out.2.1 id,A20.out.row H18.out.2.2.1 id,A20.out⟩,?_⟩
 iterate 2
  refine plan_look (v:=.bool true) rfl rfl (fun w0 hS=>(by clear hS;go_simp;try rfl)) ?_;simp only[Act.put,nAq,nBq,nCq]
 refine Ab ?_;simp only[List.drop_succ_cons,List.drop_zero];go_wp2;refine NoPanic.normal ?_;go_wp2;go_ret;exact⟨rfl,H18.out.2.2.2.2.1 _ A20.out⟩
theorem Rn {w:World} {ao:Option Addr} {l:List BN} (cap:Nat) (h:Ga w ao l) (hn:l.length≤140737488351232) :
 Calls Tryz.prog 14 #[.slice ao l.length cap] w fun e w'=>e=.returned (.int .i64 ((unl (F1 l) l.length:Nat):Int))∧Adds w w':=by
 obtain⟨len,hlen⟩:∃len,len=l.length:=⟨_,rfl⟩
 obtain⟨ks,hks⟩:∃ks,ks=F1 l:=⟨_,rfl⟩
 rw[←hlen, ←hks];rw[←hlen] at hn;have HH:=(hIq h (aIq hn (aIq hlen hks)))
 clear h hn hlen hks;go_enter Tryz.func14,Tryz.ntmps14;go_wp2_with fail;go_loopg [3,4,5,6] len (fun g s3 s4 s5 s6 wr=>∃k:Nat,s4=.int .i64 (k:Nat)∧s3=.int .i64 ((unl ks k:Nat):Int)∧k+g=len∧Adds w wr)
 case atStart=>exact⟨0,rfl,rfl,by omega,Ch.refl _ _⟩
 obtain⟨k,rfl,rfl,hk,hA⟩:=hrel;have HK:=(hIq hk hA)
 obtain⟨u,hu⟩:∃u,u=unl ks k:=⟨_,rfl⟩
 have hul:=SG ks k;rw[←hu] at hul ⊢;by_cases hkn:k<len
 · have h1:decide ((k:Int)<(len:Int))=true:=decide_eq_true (by omega)
   have h2:(k:Int)<(len:Int):=by omega
   have hwk:wrap64 ((k:Int)+1)=(k:Int)+1:=by have:=HH.out.2.1;unfold wrap64;omega
   have hwu:wrap64 ((u:Int)+1)=(u:Int)+1:=by have:=HH.out.2.1;unfold wrap64;omega
   obtain⟨x,hx⟩:∃x,l[k]?=some x:=⟨_,List.getElem?_eq_getElem (by have:=HH.out.2.2.1;omega)⟩
   obtain⟨g0,off,rfl,hp⟩:=HH.out.1.row k x hx;have hg:=HH.out.1.good x (List.mem_of_getElem? hx);have hkx:ks[k]?=some x.kb:=by rw[HH.out.2.2.2];unfold F1;rw[List.getElem?_map,hx];rfl
   obtain⟨ko,kc,hkv,_,_⟩:=hg.key.form
   have hcx:∀w1,Adds w w1→w1.cell? ⟨g0,off+k*3,none⟩=some (.slice ko x.kb.length kc):=fun w1 a=>by
    have:=Law9.Bx.cellAt (hp.Af a (fun h=>h)) (i:=0) (v:=x.kv) rfl;rw[hkv] at this;exact this
   have hbx:∀w1,Adds w w1→Bytes w1 (.slice ko x.kb.length kc) x.kb:=fun w1 a=>by rw[←hkv];exact hg.key.Af a (fun _ _ h=>h)
   obtain⟨kn,hkn2⟩:∃n,n=x.kb.length:=⟨_,rfl⟩
   obtain⟨xk,hxk⟩:∃xk,xk=x.kb:=⟨_,rfl⟩
   rw[←hkn2] at hcx hbx;rw[←hxk] at hkx hbx;have HX:=(hIq hcx (aIq hbx (aIq hkx (aIq hul hu))))
   clear hk hA hx hp hg hkx hkv hcx hbx hkn2 hxk hul hu;go_wp2_with fail;go_loopg [5,6] k (fun g s5 s6 wx=>∃j:Nat,s6=.int .i64 (j:Nat)∧j+g=k∧s5=.bool (decide (xk∈ks.take j))∧Adds wr wx)
   case atStart=>exact⟨0,rfl,by omega,by simp,Ch.refl _ _⟩
   obtain⟨j,rfl,hj,rfl,hB⟩:=hrel;obtain⟨is,his⟩:∃b,b=decide (xk∈ks.take j):=⟨_,rfl⟩
   rw[←his];by_cases hjk:j<k
   · have h3:decide ((j:Int)<(k:Int))=true:=decide_eq_true (by omega)
     have h4:(j:Int)<(k:Int):=by omega
     have h5:(j:Int)<(len:Int):=by omega
     have hwj:wrap64 ((j:Int)+1)=(j:Int)+1:=by have:=HH.out.2.1;unfold wrap64;omega
     obtain⟨y,hy⟩:∃y,l[j]?=some y:=⟨_,List.getElem?_eq_getElem (Nat.lt_of_lt_of_le (Nat.lt_trans hjk hkn) (Nat.le_of_eq HH.out.2.2.1))⟩
     obtain⟨g1,off1,e1,hp1⟩:=HH.out.1.row j y hy;injection e1 with e1;injection e1 with e1 e2 _;subst e1;subst e2;have hg1:=HH.out.1.good y (List.mem_of_getElem? hy);have hky:ks[j]?=some y.kb:=by rw[HH.out.2.2.2];unfold F1;rw[List.getElem?_map,hy];rfl
     have htk:ks.take (j+1)=ks.take j ++ [y.kb]:=by rw[List.take_add_one,hky];rfl
     obtain⟨jo,jc,hjv,_,_⟩:=hg1.key.form
     have hcy:∀w1,Adds w w1→w1.cell? ⟨g0,off+j*3,none⟩=some (.slice jo y.kb.length jc):=fun w1 a=>by
      have:=Law9.Bx.cellAt (hp1.Af a (fun h=>h)) (i:=0) (v:=y.kv) rfl;rw[hjv] at this;exact this
     have hby:∀w1,Adds w w1→Bytes w1 (.slice jo y.kb.length jc) y.kb:=fun w1 a=>by rw[←hjv];exact hg1.key.Af a (fun _ _ h=>h)
     have hsb:=fun w1 (a:Adds w w1)=>Mw (HX.out.2.1 w1 a) (hby w1 a)
     obtain⟨jn,hjn⟩:∃n,n=y.kb.length:=⟨_,rfl⟩
     obtain⟨b,hb⟩:∃b,b=decide (xk=y.kb):=⟨_,rfl⟩
     rw[←hjn] at hcy hsb;rw[←hb] at hsb
     have hres:decide (xk∈ks.take (j+1))=(is||b):=by
      rw[htk,his,hb];simp only[List.mem_append,List.mem_singleton,Bool.decide_or]
     have HY:=(hIq hcy (aIq hsb (aIq hres hj)))
     have AB:=Lib.hid (HK.out.2.trans hB (fun _ (h:False)=>h.elim));have AC:=Lib.hid hB;clear hj hB hy hp1 hg1 hky htk hjv hcy hby hsb hjn hb hres his;cases is with
     | true =>
      go_wp2;refine AN (fun w0=>Adds w w0) 14 [(0,false),(1,false),(2,false),(3,false),(4,false),(5,false),(6,false),(7,false),(8,false),(9,false),(10,false),(11,false),(12,false),(13,false)] (by kernel_rfl) (by kernel_rfl) ?_ ?_
      · exact AB.out.drew
      iterate 2
       refine plan_look (v:=.bool true) rfl rfl (fun w0 hS=>(by clear hS;go_simp;try rfl)) ?_;simp only[Act.put,nAq,nBq,nCq]
      iterate 11
       refine B5 rfl rfl ?_;simp only[Act.put,nAq,nBq,nCq]
      refine plan_look (v:=.bool true) rfl rfl (fun w0 hS=>(by clear hS;go_simp;try rfl)) ?_;simp only[Act.put,nAq,nBq,nCq];refine Ab ?_;simp only[List.drop_succ_cons,List.drop_zero];go_wp2;refine NoPanic.normal ?_;go_wp2_with fail;go_roundg (k-(j+1))
      case measure=>have:=HY.out.2.2.2;omega
      exact⟨j+1,by first|(simp;done)|(simp[hwj];done),by omega,by rw[HY.out.2.2.1];rfl,AC.out.drew⟩
     | false =>
      go_wp2;refine AN (fun w0=>Adds w w0) 14 [(0,false),(1,false),(2,false),(3,false),(4,false),(5,false),(6,false),(7,false),(8,false),(9,false),(10,false),(11,false),(12,true),(13,false)] (by kernel_rfl) (by kernel_rfl) ?_ ?_
      · exact AB.out.drew
      iterate 2
       refine plan_look (v:=.bool false) rfl rfl (fun w0 hS=>(by clear hS;go_simp;try rfl)) ?_;simp only[Act.put,nAq,nBq,nCq]
      iterate 4
       refine plan_look rfl rfl (fun w0 hS=>(by clear hS;go_simp;try rfl)) ?_;simp only[Act.put,nAq,nBq,nCq]
      refine plan_look (v:=.slice ko kn kc) rfl rfl (fun w0 hS=>(by have c1:=HX.out.1 w0 hS;clear hS;go_simp;try rfl)) ?_;simp only[Act.put,nAq,nBq,nCq]
      iterate 4
       refine plan_look rfl rfl (fun w0 hS=>(by clear hS;go_simp;try rfl)) ?_;simp only[Act.put,nAq,nBq,nCq]
      refine plan_look (v:=.slice jo jn jc) rfl rfl (fun w0 hS=>(by have c1:=HY.out.1 w0 hS;clear hS;go_simp;try rfl)) ?_;simp only[Act.put,nAq,nBq,nCq];refine AY rfl ?_;go_wp2_with fail;refine(HY.out.2.1 _ AB.out.drew).mono ?_;rintro e w2 ⟨rfl,rfl⟩;dsimp only;go_step;refine wpList_nil ?_;change _∧_;refine⟨AB.out.drew,?_⟩;refine plan_look (v:=.bool b) rfl rfl (fun w0 hS=>(by clear hS;go_simp;try rfl)) ?_;simp only[Act.put,nAq,nBq,nCq];refine Ab ?_;simp only[List.drop_succ_cons,List.drop_zero];go_wp2;refine NoPanic.normal ?_;go_wp2_with fail;go_roundg (k-(j+1))
      case measure=>have:=HY.out.2.2.2;omega
      exact⟨j+1,by first|(simp;done)|(simp[hwj];done),by omega,by rw[HY.out.2.2.1];rfl,AC.out.drew⟩
   obtain rfl:j=k:=by omega
   have h3:decide ((j:Int)<(j:Int))=false:=decide_eq_false (by omega);have h4:¬(j:Int)<(j:Int):=by omega
   have hus:unl ks (j+1)=u+(if xk∈ks.take j then 0 else 1):=by rw[Ge HX.out.2.2.1,HX.out.2.2.2.2]
   have HU:=(hIq hus (aIq his (HK.out.2.trans hB (fun _ (h:False)=>h.elim))))
   clear hj hB hus his;cases is with
   | true =>
    have h6:=of_decide_eq_true HU.out.2.1.symm;have HUU:RowKit.Hid (unl ks (j+1)=u):=Lib.hid (by rw[HU.out.1,if_pos h6,Nat.add_zero]);clear h6;go_wp2;go_roundg (len-(j+1))
    case measure=>have:=HK.out.1;omega
    exact⟨j+1,by first|(simp;done)|(simp[hwk];done),by rw[HUU.out],by omega,HU.out.2.2⟩
   | false =>
    have h6:=of_decide_eq_false HU.out.2.1.symm;have HUU:RowKit.Hid (unl ks (j+1)=u+1):=Lib.hid (by rw[HU.out.1,if_neg h6]);clear h6;go_wp2;go_roundg (len-(j+1))
    case measure=>have:=HK.out.1;omega
    exact⟨j+1,by first|(simp;done)|(simp[hwk];done),by rw[HUU.out];first|(simp;done)|(simp[hwu];done),by omega,HU.out.2.2⟩
 obtain rfl:k=len:=by omega
 have h1:decide ((k:Int)<(k:Int))=false:=decide_eq_false (by omega);have h2:¬(k:Int)<(k:Int):=by omega
 have HU:=Lib.hid hu;clear hk hA hul hu;go_wp2;go_ret;exact⟨by rw[HU.out];rfl,HK.out.2⟩
end Go.Proofs.YtngbdbpofifimaaGreat.Law15
