/- Laws of the layers below. -/
import Derived.Test.YtngbdbpofifimaaGreatQl37
import Derived.Deep.DeepAppendWide
set_option maxHeartbeats 3200000
set_option maxRecDepth 100000
set_option linter.unusedVariables false
namespace Go.Proofs.YtngbdbpofifimaaGreat.Law15
open Go.RowKit Go.Sort Go.Proofs.YtngbdbpofifimaaGreat.ShaW Go.Proofs.YtngbdbpofifimaaGreat.Path Go.Proofs.YtngbdbpofifimaaGreat.Store Go.Proofs.YtngbdbpofifimaaGreat.Law9 Go.Proofs.YtngbdbpofifimaaGreat.Law14
section
variable {w0 w w' : World} {d v s room tn : Nat} {G : Nat→Prop} {σ σ' : AD Nd} {root r : Int} {L L' : AS} {M M' : Nmd} {R : List (Int×AS)} {key bs : List UInt8}
def Er (σ:AD Nd) (bs:List UInt8):Int:=if 1024<bs.length then 4 else if Cw σ 1=true then 0 else 9
theorem XY (h:Ow w0 w s σ G) (D:BE σ ((root,L)::R)) (hk:key.length=32) {vv:Value} (hb:Bytes w vv bs) (hv:bs ≠ []→∀k,vv.ownBlock=some k→k<w.heap.size) (htot:Store.total σ+600<1073741824) :
 Calls Tryz.prog 60 #[.pointer (some ⟨s,0,none⟩),.int .i64 root,.agg (AK key),vv] w fun e w'=>∃r σ',e=.returned (.tuple #[.int .i64 r,.int .i64 (Er σ bs)])∧Ow w0 w' s σ' G∧But G w w' ∧
  ((Er σ bs≠0∧σ'=σ)∨(Er σ bs=0∧WroteR σ σ' root r 258 600∧BE σ' ((r,upd L key bs)::R))):=by
 obtain⟨F,hAt⟩:=h.at;have hh:=(D.db (p:=(root,L)) (List.mem_cons_self ..)).hand;by_cases hl:1024<bs.length
 · have e:Er σ bs=4:=by unfold Er;rw[if_pos hl]
   obtain⟨ao,cap,rfl,_,_⟩:=hb.form;rw[e];exact(V5 hAt root (AK key) ao bs.length cap hl).mono fun e w' ⟨he,ha⟩=>⟨0,σ,he,h.adds ha,Adds.but ha,.inl ⟨by decide,rfl⟩⟩
 cases hf:Cw σ 1 with
 | true =>
  have e:Er σ bs=0:=by unfold Er;rw[if_neg hl,hf];rfl
  rw[e]
  have hr:Store.live σ+258≤σ.room:=by
   rw[GN,D.good.used] at hf;exact of_decide_eq_true hf
  exact(Si h D hk hb hv (by omega) hr htot).mono fun e w' ⟨r,σ',he,ho,hb,hw,hr,_⟩=>⟨r,σ',he,ho,hb,.inr ⟨rfl,hw,hr⟩⟩
 | false =>
  have e:Er σ bs=9:=by unfold Er;rw[if_neg hl,hf];rfl
  rw[e];exact(VG hAt root key hb (by omega) hh hf).mono fun e w' ⟨he,ha⟩=>⟨0,σ,he,h.adds ha,Adds.but ha,.inl ⟨by decide,rfl⟩⟩
def DZ (σ:AD Nd) (key bs:List UInt8):Int:=if key.length=32 then Er σ bs else 3
noncomputable def JM (σ:AD Nd) (L:AS) (key bs:List UInt8):AS:=if DZ σ key bs=0 then upd L key bs else L
def XR (w0 w:World) (d v s:Nat) (G:Nat→Prop) (room:Nat) (σ:AD Nd) (L:AS) (M:Nmd) (tn:Nat) (key bs:List UInt8) (e:Ending) (w':World):Prop :=
 e=.returned (.int .i64 (DZ σ key bs))∧∃σ' r,DStep w0 w w' d v s G room σ σ' r (JM σ L key bs) M tn 258∧(DZ σ key bs≠0→σ'=σ)
theorem To (h:Dct w0 w d v s G room σ root L M tn) {kv vv:Value} (hk:Bytes w kv key) (hb:Bytes w vv bs) (hv:bs ≠ []→∀k,vv.ownBlock=some k→k<w.heap.size) (htn:tn≤500000000) :
 Calls Tryz.prog 12 #[.pointer (some ⟨d,0,none⟩),kv,vv] w (XR w0 w d v s G room σ L M tn key bs):=by
 have hn:=JV h hk;obtain⟨K,hK⟩:∃K,K=AK (Co key):=⟨_,rfl⟩
 have hks:K.size=32:=by rw[hK,AN,Cy]
 have hk1:∀v∈K.toList,v.oneCell'=true:=by rw[hK];exact Ae _
 rw[←hK] at hn;obtain⟨Z,hZ⟩:∃Z,Z=AK (List.replicate 32 0):=⟨_,rfl⟩
 have hzd:=Ef;have hZs:Z.size=32:=by rw[hZ];rfl
 rw[←hZ] at hzd;have HZ:=(hIq hzd (aIq hZs (aIq hks hk1)))
 have HK:=Lib.hid hK;have HN:=Lib.hid hn;have HH:=(hIq h (aIq hb (aIq hv htn)))
 clear hzd hZs hZ hn hks hk1 hK hk hb hv htn;by_cases h32:key.length=32
 · have e3:DA key=0:=by unfold DA;rw[if_pos h32]
   rw[e3] at HN;have e4:Co key=key:=by unfold Co;rw[if_pos h32]
   have HE:=(hIq h32 e4)
   clear e3 e4 h32 h;go_enter Tryz.func12,Tryz.ntmps12;go_wp2_with fail;refine HN.out.mono ?_;rintro e w1 ⟨rfl,a1⟩;have A1:=Lib.hid a1;clear a1
   go_upto_region 4 with(first
    | fail
    | ((with_reducible show zOq (.alloc 47));refine AI rfl 47 rfl (.agg Z) HZ.out.1 ?_;dsimp only[Value.cells];try simp only[World.size_alloc])
    | ((with_reducible show zOq (.store 47 _ _));refine AE rfl 47 _ _ rfl w1.heap.size 0 K rfl rfl (heap_alloc_new _ _) (by rw[AY,HZ.out.2.2.1]) (by rw[HZ.out.2.1,HZ.out.2.2.1];exact Nat.le_of_eq (Nat.zero_add _)) HZ.out.2.2.2 K (by rw[AJ _ _ (by rw[Array.length_toList,Array.length_toList,HZ.out.2.1,HZ.out.2.2.1])]) ?_))
   refine BJ (fun w2 hw2=>?_);have a2:Adds w w2:=by rw[hw2];exact(A1.out.alloc _).setRow (.inr A1.out.size) _
   have r2:w2.heap[w1.heap.size]?=some (.cells K 47 (0,0)):=by rw[hw2];exact AF (heap_alloc_new w1 (.cells Z 47)) K
   have d2:=(HH.out.1.adds a2).cell;obtain⟨m,ho,hst⟩:=HH.out.1.vs.step;have ho2:=ho.more (w':=w2.drew) (a2.drew) (G':=fun k=>GF v m (fun k=>k=d∨G k) k∨k=w1.heap.size) (fun k hk=>hk.imp id (fun e=>by rw[e];exact⟨A1.out.size,Ac r2⟩));have hput:=XY (key:=Co key) ho2 HH.out.1.rts (Cy key) (HH.out.2.1.Af a2.drew (fun _ _ h=>h)) (fun h0 k hk=>Nat.lt_of_lt_of_le (HH.out.2.2.1 h0 k hk) a2.size) (by have:=HH.out.1.total;have:=HH.out.2.2.2;omega);rw[←HK.out] at hput;obtain⟨pe,hpe⟩:∃pe,pe=Er σ bs:=⟨_,rfl⟩
   rw[←hpe] at hput;have HPE:=Lib.hid hpe;have H2:=(hIq a2 (aIq r2 d2))
   have HP:=(hIq hput (@hst))
   clear a2 r2 d2 ho hst ho2 hput hw2 hpe;go_wp2;refine AO (fun w0=>w0.heap[d]?=some (.cells (Od v s root) 115 (0,0))∧w0.heap[w1.heap.size]?=some (.cells K 47 (0,0))) 16 [(0,false),(1,false),(2,false),(3,false),(4,false),(5,false),(6,false),(7,false),(8,false),(9,false),(10,true),(11,false),(12,false),(13,false),(14,false),(15,false)] (by kernel_rfl) (by kernel_rfl) ?_ ?_
   · exact⟨AP H2.out.2.2,AP H2.out.2.1⟩
   iterate 3
    iterate 1 refine plan_look rfl rfl (fun w0 hS=>(by go_simp;try rfl)) ?_
    simp only[Act.put,nAq,nBq,nCq]
   refine plan_look (v:=.pointer (some ⟨s,0,none⟩)) rfl rfl (fun w0 hS=>(by have e0:w0.cell? ⟨d,1,none⟩=some (.pointer (some ⟨s,0,none⟩)):=AH hS.1 rfl;clear hS;go_simp;try rfl)) ?_;simp only[Act.put,nAq,nBq,nCq]
   iterate 3
    iterate 1 refine plan_look rfl rfl (fun w0 hS=>(by go_simp;try rfl)) ?_
    simp only[Act.put,nAq,nBq,nCq]
   refine plan_look (v:=.int .i64 root) rfl rfl (fun w0 hS=>(by have e0:w0.cell? ⟨d,2,none⟩=some (.int .i64 root):=AH hS.1 rfl;clear hS;go_simp;try rfl)) ?_;simp only[Act.put,nAq,nBq,nCq];refine Ah (cur:=K) (t:=47) (fr:=(0,0)) rfl rfl 47 _ rfl w1.heap.size 0 32 rfl (fun w0 hS=>hS.2) Tryz.underlying47 rfl AY (by rw[HZ.out.2.2.1];exact Nat.le_of_eq (Nat.zero_add _)) K (by have:=HZ.out.2.2.1;simp[←this]) ?_;simp only[Act.put,nAq,nBq,nCq]
   iterate 1 refine plan_look rfl rfl (fun w0 hS=>(by go_simp;try rfl)) ?_
   simp only[Act.put,nAq,nBq,nCq];refine AV rfl ?_;go_wp2_with fail;refine HP.out.1.mono ?_;rintro e w3 ⟨r,σ',rfl,o3,b3,hc3⟩;have hb3:=(Adds.but (G:=GF v m (fun k=>k=d∨G k)) H2.out.1.drew).then (b3.less (fun _ h=>.inl h));obtain⟨v3,c3⟩:=HP.out.2 (o3.less (fun _ h=>.inl h)) hb3;have r3:=c3.row HH.out.1.cell (.inl rfl);have k3:=b3.row (AP H2.out.2.1) (.inr rfl);have H3:=(hIq v3 (aIq c3 (aIq hc3 (aIq r3 k3))))
   clear o3 b3 hc3 hb3 v3 c3 r3 k3;dsimp only;go_step;refine wpList_nil ?_;change _∧_;refine⟨⟨H3.out.2.2.2.1,H3.out.2.2.2.2⟩,?_⟩
   iterate 5
    refine plan_look rfl rfl (fun w0 hS=>(by clear hS;go_simp;try rfl)) ?_;simp only[Act.put,nAq,nBq,nCq]
   refine AZ ?_;simp only[List.drop_succ_cons,List.drop_zero];go_wp2;refine NoPanic.normal ?_;by_cases h0:pe=0
   · have f3:=Al H3.out.2.2.2.1 2
     have l3:=Ac H3.out.2.2.2.1;have c3:w3.cell? ⟨d,2,none⟩=some (.int .i64 root):=AH H3.out.2.2.2.1 rfl;have HP0:=(hIq HPE.out h0)
     subst h0;clear HPE;go_wp2;go_ret;obtain⟨_,hw,hr⟩:=H3.out.2.2.1.resolve_left (fun h=>h.1 rfl);rw[HE.out.2] at hr;have hdw:=Dct.write (tn:=tn+60000) H3.out.2.2.2.1 H3.out.1 hr (hw.room.trans HH.out.1.room) (by have:=hw.total;have:=HH.out.1.total;omega) HH.out.1.base;have he:DZ σ key bs=0:=by unfold DZ;rw[if_pos HE.out.1];exact HP0.out.1.symm
     refine⟨by rw[he];rfl,σ',r,?_⟩;unfold JM;rw[if_pos he];exact⟨⟨hdw.1,(H3.out.2.1.less (fun _ h=>.inr h)).then hdw.2,by have:=hw.live;omega⟩,fun h=>absurd he h⟩
   have HP0:=(hIq HPE.out h0)
   clear HPE;go_wp2;go_ret;obtain⟨_,rfl⟩:=H3.out.2.2.1.resolve_right (fun h=>HP0.out.2 h.1);have he:DZ σ' key bs=pe:=by unfold DZ;rw[if_pos HE.out.1];exact HP0.out.1.symm
   refine⟨by rw[he];rfl,σ',root,?_⟩;unfold JM;rw[if_neg (by rw[he];exact HP0.out.2)];exact⟨⟨(⟨H3.out.2.2.2.1,H3.out.1,HH.out.1.rts,HH.out.1.room,HH.out.1.total,HH.out.1.base⟩:Dct w0 w3 d v s G room σ' root L M tn).Ik (Nat.le_add_right _ _),H3.out.2.1.less (fun _ h=>.inr h),Nat.le_add_right _ _⟩,fun _=>rfl⟩
 have e3:DA key=3:=by unfold DA;rw[if_neg h32]
 rw[e3] at HN;have HE:=Lib.hid h32;clear e3 h32 h;go_enter Tryz.func12,Tryz.ntmps12;go_wp2_with fail;refine HN.out.mono ?_;rintro e w1 ⟨rfl,a1⟩;have A1:=Lib.hid a1;clear a1
 go_wp2_with (first
  | fail
  | ((with_reducible show zOq (.alloc 47));refine AI rfl 47 rfl (.agg Z) HZ.out.1 ?_;dsimp only[Value.cells];try simp only[World.size_alloc])
  | ((with_reducible show zOq (.store 47 _ _));refine AE rfl 47 _ _ rfl w1.heap.size 0 K rfl rfl (heap_alloc_new _ _) (by rw[AY,HZ.out.2.2.1]) (by rw[HZ.out.2.1,HZ.out.2.2.1];exact Nat.le_of_eq (Nat.zero_add _)) HZ.out.2.2.2 K (by rw[AJ _ _ (by rw[Array.length_toList,Array.length_toList,HZ.out.2.1,HZ.out.2.2.1])]) ?_))
 go_ret;have he:DZ σ key bs=3:=by unfold DZ;rw[if_neg HE.out]
 refine⟨by rw[he];rfl,σ,root,?_⟩;unfold JM;rw[if_neg (by rw[he];decide)];exact⟨HH.out.1.stay ((A1.out.alloc _).setRow (.inr A1.out.size) _) _,fun _=>rfl⟩
theorem OQ (h:Dct w0 w d v s G room σ root L M tn) {kv vv:Value} (hk:Bytes w kv key) (hb:Bytes w vv bs) (hv:bs ≠ []→∀k,vv.ownBlock=some k→k<w.heap.size) (htn:tn≤500000000) :
 Calls Tryz.prog 12 #[.pointer (some ⟨d,0,none⟩),kv,vv] w fun e w'=>e=.returned (.int .i64 (DZ σ key bs)) ∧
  ∃σ' r,DStep w0 w w' d v s G room σ σ' r (JM σ L key bs) M tn 258:=(To h hk hb hv htn).mono fun e w' ⟨he,σ',r,hs,_⟩=>⟨he,σ',r,hs⟩
end
section
variable {w0 w w' : World} {d v s room tn : Nat} {G : Nat→Prop} {σ σ' : AD Nd} {root r : Int} {L L' : AS} {M M' : Nmd} {R : List (Int×AS)} {key bs : List UInt8}
def Ey (σ:AD Nd):Int:=if Cw σ 1=true then 0 else 9
theorem We (h:Ow w0 w s σ G) (D:BE σ ((root,L)::R)) (hk:key.length=32) (htot:Store.total σ+1000<1073741824) :
 Calls Tryz.prog 61 #[.pointer (some ⟨s,0,none⟩),.int .i64 root,.agg (AK key)] w fun e w'=>∃r σ' gone,e=.returned (.tuple #[.int .i64 r,.bool gone,.int .i64 (Ey σ)])∧Ow w0 w' s σ' G∧But G w w' ∧
  ((Ey σ≠0∧gone=false∧σ'=σ)∨(Ey σ=0∧gone=decide (key∈keysOf L)∧WroteR σ σ' root r 256 1000∧BE σ' ((r,Bm L key)::R))):=by
 obtain⟨F,hAt⟩:=h.at;have hh:=(D.db (p:=(root,L)) (List.mem_cons_self ..)).hand;cases hf:Cw σ 1 with
 | true =>
  have e:Ey σ=0:=by unfold Ey;rw[hf];rfl
  rw[e]
  have hr:Store.live σ+258≤σ.room:=by
   rw[GN,D.good.used] at hf;exact of_decide_eq_true hf
  exact(Qn h D hk hr htot).mono fun e w' ⟨r,σ',gone,he,ho,hb,hw,hr,hg,_⟩=>⟨r,σ',gone,he,ho,hb,.inr ⟨rfl,by
   by_cases hm:key∈keysOf L
   · rw[decide_eq_true hm];exact hg.2 hm
   rw[decide_eq_false hm];cases h:gone with
   | false=>rfl
   | true=>exact absurd (hg.1 h) hm,hw,hr⟩⟩
 | false =>
  have e:Ey σ=9:=by unfold Ey;rw[hf];rfl
  rw[e];exact(TO hAt root (AK key) hh hf).mono fun e w' ⟨he,ha⟩=>⟨0,σ,false,he,h.adds ha,Adds.but ha,.inl ⟨by decide,rfl,rfl⟩⟩
def EB (σ:AD Nd) (key:List UInt8):Int:=if key.length=32 then Ey σ else 3
noncomputable def MP (σ:AD Nd) (L:AS) (key:List UInt8):AS:=if EB σ key=0 then Bm L key else L
def KU (σ:AD Nd) (L:AS) (key:List UInt8):Bool:=decide (EB σ key=0∧key∈keysOf L)
def XQ (w0 w:World) (d v s:Nat) (G:Nat→Prop) (room:Nat) (σ:AD Nd) (L:AS) (M:Nmd) (tn:Nat) (key:List UInt8) (e:Ending) (w':World):Prop :=
 e=.returned (.tuple #[.bool (KU σ L key),.int .i64 (EB σ key)])∧∃σ' r,DStep w0 w w' d v s G room σ σ' r (MP σ L key) M tn 258∧(EB σ key≠0→σ'=σ)
theorem Nz (h:Dct w0 w d v s G room σ root L M tn) {kv:Value} (hk:Bytes w kv key) (htn:tn≤500000000) :
 Calls Tryz.prog 13 #[.pointer (some ⟨d,0,none⟩),kv] w (XQ w0 w d v s G room σ L M tn key):=by
 have hn:=JV h hk;obtain⟨K,hK⟩:∃K,K=AK (Co key):=⟨_,rfl⟩
 have hks:K.size=32:=by rw[hK,AN,Cy]
 have hk1:∀v∈K.toList,v.oneCell'=true:=by rw[hK];exact Ae _
 rw[←hK] at hn;obtain⟨Z,hZ⟩:∃Z,Z=AK (List.replicate 32 0):=⟨_,rfl⟩
 have hzd:=Ef;have hZs:Z.size=32:=by rw[hZ];rfl
 rw[←hZ] at hzd;have HZ:=(hIq hzd (aIq hZs (aIq hks hk1)))
 have HK:=Lib.hid hK;have HN:=Lib.hid hn;have HH:=(hIq h htn)
 clear hzd hZs hZ hn hks hk1 hK hk htn;by_cases h32:key.length=32
 · have e3:DA key=0:=by unfold DA;rw[if_pos h32]
   rw[e3] at HN;have e4:Co key=key:=by unfold Co;rw[if_pos h32]
   have HE:=(hIq h32 e4)
   clear e3 e4 h32 h;go_enter Tryz.func13,Tryz.ntmps13;go_wp2_with fail;refine HN.out.mono ?_;rintro e w1 ⟨rfl,a1⟩;have A1:=Lib.hid a1;clear a1
   go_upto_region 4 with(first
    | fail
    | ((with_reducible show zOq (.alloc 47));refine AI rfl 47 rfl (.agg Z) HZ.out.1 ?_;dsimp only[Value.cells];try simp only[World.size_alloc])
    | ((with_reducible show zOq (.store 47 _ _));refine AE rfl 47 _ _ rfl w1.heap.size 0 K rfl rfl (heap_alloc_new _ _) (by rw[AY,HZ.out.2.2.1]) (by rw[HZ.out.2.1,HZ.out.2.2.1];exact Nat.le_of_eq (Nat.zero_add _)) HZ.out.2.2.2 K (by rw[AJ _ _ (by rw[Array.length_toList,Array.length_toList,HZ.out.2.1,HZ.out.2.2.1])]) ?_))
   refine BJ (fun w2 hw2=>?_);have a2:Adds w w2:=by rw[hw2];exact(A1.out.alloc _).setRow (.inr A1.out.size) _
   have r2:w2.heap[w1.heap.size]?=some (.cells K 47 (0,0)):=by rw[hw2];exact AF (heap_alloc_new w1 (.cells Z 47)) K
   have d2:=(HH.out.1.adds a2).cell;obtain⟨m,ho,hst⟩:=HH.out.1.vs.step;have ho2:=ho.more (w':=w2.drew) (a2.drew) (G':=fun k=>GF v m (fun k=>k=d∨G k) k∨k=w1.heap.size) (fun k hk=>hk.imp id (fun e=>by rw[e];exact⟨A1.out.size,Ac r2⟩));have hput:=We (key:=Co key) ho2 HH.out.1.rts (Cy key) (by have:=HH.out.1.total;have:=HH.out.2;omega);rw[←HK.out] at hput;obtain⟨pe,hpe⟩:∃pe,pe=Ey σ:=⟨_,rfl⟩
   rw[←hpe] at hput;have HPE:=Lib.hid hpe;have H2:=(hIq a2 (aIq r2 d2))
   have HP:=(hIq hput (@hst))
   clear a2 r2 d2 ho hst ho2 hput hw2 hpe;go_wp2;refine AO (fun w0=>w0.heap[d]?=some (.cells (Od v s root) 115 (0,0))∧w0.heap[w1.heap.size]?=some (.cells K 47 (0,0))) 17 [(0,false),(1,false),(2,false),(3,false),(4,false),(5,false),(6,false),(7,false),(8,false),(9,true),(10,false),(11,false),(12,false),(13,false),(14,false),(15,false),(16,false)] (by kernel_rfl) (by kernel_rfl) ?_ ?_
   · exact⟨AP H2.out.2.2,AP H2.out.2.1⟩
   iterate 3
    iterate 1 refine plan_look rfl rfl (fun w0 hS=>(by go_simp;try rfl)) ?_
    simp only[Act.put,nAq,nBq,nCq]
   refine plan_look (v:=.pointer (some ⟨s,0,none⟩)) rfl rfl (fun w0 hS=>(by have e0:w0.cell? ⟨d,1,none⟩=some (.pointer (some ⟨s,0,none⟩)):=AH hS.1 rfl;clear hS;go_simp;try rfl)) ?_;simp only[Act.put,nAq,nBq,nCq]
   iterate 3
    iterate 1 refine plan_look rfl rfl (fun w0 hS=>(by go_simp;try rfl)) ?_
    simp only[Act.put,nAq,nBq,nCq]
   refine plan_look (v:=.int .i64 root) rfl rfl (fun w0 hS=>(by have e0:w0.cell? ⟨d,2,none⟩=some (.int .i64 root):=AH hS.1 rfl;clear hS;go_simp;try rfl)) ?_;simp only[Act.put,nAq,nBq,nCq];refine Ah (cur:=K) (t:=47) (fr:=(0,0)) rfl rfl 47 _ rfl w1.heap.size 0 32 rfl (fun w0 hS=>hS.2) Tryz.underlying47 rfl AY (by rw[HZ.out.2.2.1];exact Nat.le_of_eq (Nat.zero_add _)) K (by have:=HZ.out.2.2.1;simp[←this]) ?_;simp only[Act.put,nAq,nBq,nCq];refine AV rfl ?_;go_wp2_with fail;refine HP.out.1.mono ?_;rintro e w3 ⟨r,σ',gone,rfl,o3,b3,hc3⟩;have hb3:=(Adds.but (G:=GF v m (fun k=>k=d∨G k)) H2.out.1.drew).then (b3.less (fun _ h=>.inl h));obtain⟨v3,c3⟩:=HP.out.2 (o3.less (fun _ h=>.inl h)) hb3;have r3:=c3.row HH.out.1.cell (.inl rfl);have k3:=b3.row (AP H2.out.2.1) (.inr rfl);have H3:=(hIq v3 (aIq c3 (aIq hc3 (aIq r3 k3))))
   clear o3 b3 hc3 hb3 v3 c3 r3 k3;dsimp only;go_step;refine wpList_nil ?_;change _∧_;refine⟨⟨H3.out.2.2.2.1,H3.out.2.2.2.2⟩,?_⟩
   iterate 7
    refine plan_look rfl rfl (fun w0 hS=>(by clear hS;go_simp;try rfl)) ?_;simp only[Act.put,nAq,nBq,nCq]
   refine AZ ?_;simp only[List.drop_succ_cons,List.drop_zero];go_wp2;refine NoPanic.normal ?_;by_cases h0:pe=0
   · have f3:=Al H3.out.2.2.2.1 2
     have l3:=Ac H3.out.2.2.2.1;have c3:w3.cell? ⟨d,2,none⟩=some (.int .i64 root):=AH H3.out.2.2.2.1 rfl;have HP0:=(hIq HPE.out h0)
     subst h0;clear HPE;go_wp2;go_ret2;obtain⟨_,hgn,hw,hr⟩:=H3.out.2.2.1.resolve_left (fun h=>h.1 rfl);rw[HE.out.2] at hgn;rw[HE.out.2] at hr;have hdw:=Dct.write (tn:=tn+60000) H3.out.2.2.2.1 H3.out.1 hr (hw.room.trans HH.out.1.room) (by have:=hw.total;have:=HH.out.1.total;omega) HH.out.1.base;have he:EB σ key=0:=by unfold EB;rw[if_pos HE.out.1];exact HP0.out.1.symm
     have hbb:KU σ L key=gone:=by unfold KU;rw[he,hgn];exact decide_eq_decide.2 ⟨fun h=>h.2,fun h=>⟨rfl,h⟩⟩
     refine⟨by rw[he,hbb];rfl,σ',r,?_⟩;unfold MP;rw[if_pos he];exact⟨⟨hdw.1,(H3.out.2.1.less (fun _ h=>.inr h)).then hdw.2,by have:=hw.live;omega⟩,fun h=>absurd he h⟩
   have HP0:=(hIq HPE.out h0)
   clear HPE;go_wp2;go_ret2;obtain⟨_,hgn,rfl⟩:=H3.out.2.2.1.resolve_right (fun h=>HP0.out.2 h.1);have he:EB σ' key=pe:=by unfold EB;rw[if_pos HE.out.1];exact HP0.out.1.symm
   have hbb:KU σ' L key=gone:=by unfold KU;rw[hgn];exact decide_eq_false (fun h=>HP0.out.2 (he.symm.trans h.1))
   refine⟨by rw[he,hbb];rfl,σ',root,?_⟩;unfold MP;rw[if_neg (by rw[he];exact HP0.out.2)];exact⟨⟨(⟨H3.out.2.2.2.1,H3.out.1,HH.out.1.rts,HH.out.1.room,HH.out.1.total,HH.out.1.base⟩:Dct w0 w3 d v s G room σ' root L M tn).Ik (Nat.le_add_right _ _),H3.out.2.1.less (fun _ h=>.inr h),Nat.le_add_right _ _⟩,fun _=>rfl⟩
 have e3:DA key=3:=by unfold DA;rw[if_neg h32]
 rw[e3] at HN;have HE:=Lib.hid h32;clear e3 h32 h;go_enter Tryz.func13,Tryz.ntmps13;go_wp2_with fail;refine HN.out.mono ?_;rintro e w1 ⟨rfl,a1⟩;have A1:=Lib.hid a1;clear a1
 go_wp2_with (first
  | fail
  | ((with_reducible show zOq (.alloc 47));refine AI rfl 47 rfl (.agg Z) HZ.out.1 ?_;dsimp only[Value.cells];try simp only[World.size_alloc])
  | ((with_reducible show zOq (.store 47 _ _));refine AE rfl 47 _ _ rfl w1.heap.size 0 K rfl rfl (heap_alloc_new _ _) (by rw[AY,HZ.out.2.2.1]) (by rw[HZ.out.2.1,HZ.out.2.2.1];exact Nat.le_of_eq (Nat.zero_add _)) HZ.out.2.2.2 K (by rw[AJ _ _ (by rw[Array.length_toList,Array.length_toList,HZ.out.2.1,HZ.out.2.2.1])]) ?_))
 go_ret2;have he:EB σ key=3:=by unfold EB;rw[if_neg HE.out]
 have hbb:KU σ L key=false:=by unfold KU;rw[he];rfl
 refine⟨by rw[he,hbb];rfl,σ,root,?_⟩;unfold MP;rw[if_neg (by rw[he];decide)];exact⟨HH.out.1.stay ((A1.out.alloc _).setRow (.inr A1.out.size) _) _,fun _=>rfl⟩
theorem Q0 (h:Dct w0 w d v s G room σ root L M tn) {kv:Value} (hk:Bytes w kv key) (htn:tn≤500000000) :
 Calls Tryz.prog 13 #[.pointer (some ⟨d,0,none⟩),kv] w fun e w'=>e=.returned (.tuple #[.bool (KU σ L key),.int .i64 (EB σ key)]) ∧
  ∃σ' r,DStep w0 w w' d v s G room σ σ' r (MP σ L key) M tn 258:=(Nz h hk htn).mono fun e w' ⟨he,σ',r,hs,_⟩=>⟨he,σ',r,hs⟩
end
end Go.Proofs.YtngbdbpofifimaaGreat.Law15
namespace Go.Proofs.YtngbdbpofifimaaGreat
open Go.RowKit
section
variable {P : Program}
theorem J1 (w:World) (t ty e:TypeId) (i:TypeInfo) (z:Value) (size bytes:Nat) (ht:P.underlying t=some (.slice e)) (hi:P.info? e=some i) (hz:i.zero=some z) (hsize:i.size=size) (hby:i.bytes=bytes) (hzs:z.cells.size=size) (hsz:0<size)
 (v:Value) (n:Nat) (xs:List Value) (hown:w.ownsRow 0 e size v n xs) (ad:Addr) (m c:Nat) (news:List Value) (hl:news.length=m*size) (hnews:∀j u,news[j]?=some u→w.cell? (ad.add j)=some u) (h1:∀u∈news,u.oneCell'=true)
 (h63:n+m≤maxLen) (hbytes:((n+m)+(n+m) / 4+192)*bytes≤281474976710656) :
 ∃v' w',(Builtin.append_ #[t,t] ty #[v,.slice (some ad) m c]).run P w=.ok v' w'∧w'.ownsRow 0 e size v' (n+m) (xs++news)∧w.grownBy w' v.ownBlock∧(v'.ownBlock=v.ownBlock∨∀k,v'.ownBlock=some k→w.heap.size≤k):=by
 have weaken:∀ {w':World} {v':Value} {k:Nat} {ys:List Value},w'.ownsRow w.heap.size e size v' k ys→w'.ownsRow 0 e size v' k ys∧∀b,v'.ownBlock=some b→w.heap.size≤b:=fun h=>by
  refine⟨⟨h.1,?_⟩,fun b hb=>(h.lt b hb).1⟩;rcases h.2 with h' | ⟨g,cap,cur,r1,_,r2⟩
  · exact .inl h'
  exact .inr ⟨g,cap,cur,r1,Nat.zero_le _,r2⟩
 rcases hown.2 with⟨rfl,rfl⟩|⟨g,cap,cur,rfl,_,hg,hn,hcap,hcur,htake⟩
 · obtain⟨v',w',hrun,r1,r2,_⟩:=run_append_own_wide (P:=P) w w.heap.size t ty e i z size bytes ht hi hz hsize hby hzs hsz (.slice none 0 0) 0 xs (by rw[show xs = [] from List.eq_nil_of_length_eq_zero (by simpa using hown.1)];exact World.ownsRow_nil ..) ad m c news hl hnews h1 h63 hbytes (Nat.le_refl _)
   exact⟨v',w',hrun,(weaken r1).1,r2,.inr (weaken r1).2⟩
 by_cases hroom:n+m≤cap
 · obtain⟨v',w',hrun,r1,r2,_⟩:=run_append_own_wide (P:=P) w 0 t ty e i z size bytes ht hi hz hsize hby hzs hsz (.slice (some ⟨g,0,none⟩) n cap) n xs hown ad m c news hl hnews h1 h63 hbytes (Nat.zero_le _)
   have hfit:n*i.size+news.length≤cur.size:=by
    rw[hl,hcur,hsize, ←Nat.add_mul];exact Nat.mul_le_mul_right _ hroom
   have hrun2:=run_append_room (P:=P) w t ty e i ht hi g n cap cur hg ad m c news (by rw[hsize];exact hl) hnews h1 hroom hfit;rw[hrun] at hrun2;injection hrun2 with e1 e2;exact⟨v',w',hrun,r1,r2,.inl (by rw[e1];rfl)⟩
 subst hsize;subst hby;have holds:∀j u,xs[j]?=some u→w.cell? ((⟨g,0,none⟩:Addr).add j)=some u:=hown.cells (g:=g) rfl;have hlen:(xs++news).length=(n+m)*i.size:=by rw[List.length_append,hown.1,hl,Nat.add_mul]
 have hsmall:n+m≤9223372036854775807:=by simp only[maxLen] at h63;omega
 have hr:=run_append_grow (P:=P) w t ty e i z ht hi hz ⟨g,0,none⟩ n cap xs hown.1 holds ad m c news hl hnews (by omega) (by omega) (growslice_fits_wide (by omega) hbytes);refine⟨_,_,hr,⟨hlen,.inr ⟨w.heap.size,_,_,rfl,Nat.zero_le _,heap_alloc_new w.drew _,grownCap_ge w (n+m) cap e,grownCap_le_maxLen w (n+m) cap e h63,?_,?_⟩⟩,⟨rfl,rfl,rfl,by simp,fun k hk _=>(by first|exact heap_alloc_old w.drew _ k hk|exact heap_alloc_old w.drew _ hk)⟩,.inr (fun k hk=>by cases hk;exact Nat.le_refl _)⟩
 · have hge:=grownCap_ge w (n+m) cap e
   simp only[Array.size_append,List.size_toArray,size_zeroCells,hzs,hown.1,hl, ←Nat.add_mul]
   congr 1
   omega
 simp only[Array.toList_append,List.append_assoc];rw[←List.append_assoc, ←hlen];exact List.take_left
theorem Ih {w:World} {ops:Array Oper} {rest:List Oper} {o:Oper} {a:Act} {Q:Exit→Act→World→Prop} (hgd:o.guard=none) (s x:Operand) (t:TypeId)
 (ho:o.op=.call { callee:=.builtin .append,args:=#[s,x],argTypes:=#[t,t] }) (e:TypeId) (i:TypeInfo) (z:Value) (size bytes:Nat) (ht:P.underlying t=some (.slice e)) (hi:P.info? e=some i) (hz:i.zero=some z)
 (hsize:i.size=size) (hby:i.bytes=bytes) (hzs:z.cells.size=size) (hsz:0<size) (v:Value) (n:Nat) (xs:List Value) (hs:a.eval s=v) (hown:w.ownsRow 0 e size v n xs)
 (ad:Addr) (m c:Nat) (news:List Value) (hx:a.eval x=.slice (some ad) m c) (hl:news.length=m*size) (hnews:∀j u,news[j]?=some u→w.cell? (ad.add j)=some u) (h1:∀u∈news,u.oneCell'=true)
 (h63:n+m≤maxLen) (hbytes:((n+m)+(n+m) / 4+192)*bytes≤281474976710656)
 (h:∀v' w',w'.ownsRow 0 e size v' (n+m) (xs++news)→w.grownBy w' v.ownBlock→(v'.ownBlock=v.ownBlock∨∀k,v'.ownBlock=some k→w.heap.size≤k)→wpList P ops Q rest (a.put o.dst v') w'):wpList P ops Q (o::rest) a w :=
 wpList_plain hgd fun _ hK=>by
  obtain⟨v',w',hrun,r1,r2,r3⟩:=J1 w t o.type e i z size bytes ht hi hz hsize hby hzs hsz v n xs hown ad m c news hl hnews h1 h63 hbytes;unfold Oper.wp;simp[execOp,ho,resolve,invoke,builtin,hs,hx,hrun,Result.andThen];exact hK _ _ (h v' w' r1 r2 r3)
end
end Go.Proofs.YtngbdbpofifimaaGreat
namespace Go.Proofs.YtngbdbpofifimaaGreat.Law15
open Go.RowKit Go.Proofs.YtngbdbpofifimaaGreat.ShaW Go.Proofs.YtngbdbpofifimaaGreat.Path Go.Proofs.YtngbdbpofifimaaGreat.Store Go.Proofs.YtngbdbpofifimaaGreat.Law9 Go.Deep Go.ChangeShapes Go.WideShapes Go.ChangeAt
structure Ay where
 kv:Value
 kb:List UInt8
 gone:Bool
 vv:Value
 vb:List UInt8
instance:Inhabited Ay:=⟨⟨.slice none 0 0,[],false,.slice none 0 0,[]⟩⟩
def Ay.cells (x:Ay):Array Value:=#[x.kv,.bool x.gone,x.vv]
structure Ay.Good (w:World) (x:Ay):Prop where
 key:Bytes w x.kv x.kb
 kblk:x.kb ≠ []→∀k,x.kv.ownBlock=some k→k<w.heap.size
 val:Bytes w x.vv x.vb
 vblk:x.vb ≠ []→∀k,x.vv.ownBlock=some k→k<w.heap.size
theorem Ay.Good.Af {F:Nat→Prop} {w w':World} {x:Ay} (h:x.Good w) (hc:Ch F w w') (hF:∀k,F k→w.heap.size≤k):x.Good w' :=
 ⟨h.key.JN hc (fun h0 k hk hf=>by have:=h.kblk h0 k hk;have:=hF k hf;omega),fun h0 k hk=>Nat.lt_of_lt_of_le (h.kblk h0 k hk) hc.size,
  h.val.JN hc (fun h0 k hk hf=>by have:=h.vblk h0 k hk;have:=hF k hf;omega),fun h0 k hk=>Nat.lt_of_lt_of_le (h.vblk h0 k hk) hc.size⟩
structure Ge (w:World) (ao:Option Addr) (l:List Ay):Prop where
 good:∀x∈l,x.Good w
 row:EN 3 Ay.cells w ao l
theorem Ge.Af {F:Nat→Prop} {w w':World} {ao:Option Addr} {l:List Ay} (h:Ge w ao l) (hc:Ch F w w') (hF:∀k,F k→w.heap.size≤k):Ge w' ao l:=⟨fun x hx=>(h.good x hx).Af hc hF,h.row.Af hc hF⟩
structure CE where
 kind:Int
 nm:List UInt8
 kv:Value
 kb:List UInt8
 vv:Value
 vb:List UInt8
 ao:Option Addr
 l:List Ay
 cap:Nat
 most:Int
instance:Inhabited CE:=⟨⟨0,[],.slice none 0 0,[],.slice none 0 0,[],none,[],0,0⟩⟩
def CE.cells (x:CE):Array Value:=#[.int .u8 x.kind,.string (BP x.nm),x.kv,x.vv,.slice x.ao x.l.length x.cap,.int .i64 x.most]
structure CE.Good (w:World) (x:CE):Prop where
 kind:0≤x.kind∧x.kind≤255
 nm:x.nm.length≤maxLen
 key:Bytes w x.kv x.kb
 kblk:x.kb ≠ []→∀k,x.kv.ownBlock=some k→k<w.heap.size
 val:Bytes w x.vv x.vb
 vblk:x.vb ≠ []→∀k,x.vv.ownBlock=some k→k<w.heap.size
 raws:Ge w x.ao x.l
 len:x.l.length≤x.cap∧x.cap≤maxLen
 most:(Lit.int .i64 x.most).wf=true
theorem CE.Good.Af {F:Nat→Prop} {w w':World} {x:CE} (h:x.Good w) (hc:Ch F w w') (hF:∀k,F k→w.heap.size≤k):x.Good w' :=
 ⟨h.kind,h.nm,h.key.JN hc (fun h0 k hk hf=>by have:=h.kblk h0 k hk;have:=hF k hf;omega),fun h0 k hk=>Nat.lt_of_lt_of_le (h.kblk h0 k hk) hc.size,
  h.val.JN hc (fun h0 k hk hf=>by have:=h.vblk h0 k hk;have:=hF k hf;omega),fun h0 k hk=>Nat.lt_of_lt_of_le (h.vblk h0 k hk) hc.size,h.raws.Af hc hF,h.len,h.most⟩
structure I5 (w:World) (ao:Option Addr) (l:List CE):Prop where
 good:∀x∈l,x.Good w
 row:EN 6 CE.cells w ao l
theorem I5.Af {F:Nat→Prop} {w w':World} {ao:Option Addr} {l:List CE} (h:I5 w ao l) (hc:Ch F w w') (hF:∀k,F k→w.heap.size≤k):I5 w' ao l:=⟨fun x hx=>(h.good x hx).Af hc hF,h.row.Af hc hF⟩
section
variable {H : Type} {enc : TypeId×Value→H} {W : World} {base : Nat}
theorem KC:Tryz.prog.cellsOf 131=3:=by kernel_rfl
theorem PF:Tryz.prog.cellsOf 4=1:=by kernel_rfl
theorem Tk:Tryz.prog.cellsOf 5=1:=by kernel_rfl
theorem L8:Tryz.prog.cellsOf 30=1:=by kernel_rfl
theorem Ms:Tryz.prog.cellsOf 9=1:=by kernel_rfl
theorem Hn:Tryz.prog.cellsOf 32=6:=by kernel_rfl
theorem EP (cs:List Value) (i j:Nat):cs.drop i=(cs.drop i).take j++cs.drop (i+j):=by
 conv=>lhs;rw[←List.take_append_drop j (cs.drop i)]
 rw[List.drop_drop]
theorem QB {n:Nat} {cs:List Value} {y:DataW H×List MemPlace} (h:DataW.trod enc Tryz.prog W base (fun _=>true) true n 131 cs=some y):∃x:Ay,x.Good W∧cs=x.cells.toList:=by
 obtain⟨xs,m,rfl,hx,hl,hxl,hf⟩:=DataW.trod_struct Tryz.underlying131 h;rw[KC] at hl;have hx3:xs.length=3:=hxl;have g:=fun i (hi:i<3)=>(List.getElem?_eq_getElem (l:=xs) (i:=i) (by omega))
 have f0:=hf 0 ⟨ "Key",29,0,false, "", "",0⟩ rfl;have f1:=hf 1 ⟨ "Gone",4,1,false, "", "",24⟩ rfl;have f2:=hf 2 ⟨ "Value",29,2,false, "", "",32⟩ rfl;rw[g 0 (by omega)] at f0;rw[g 1 (by omega)] at f1;rw[g 2 (by omega)] at f2;simp only[Kf,PF] at f0 f1 f2;obtain⟨kv,kb,e0,h1,h2⟩:=Gw f0;obtain⟨b,e1,_⟩:=DataW.trod_bool Tryz.underlying4 f1;obtain⟨vv,vb,e2,h3,h4⟩:=Gw f2;refine⟨⟨kv,kb,b,vv,vb⟩,⟨h1,h2,h3,h4⟩,?_⟩;have a:cs.drop 2=(cs.drop 2).take 1:=(List.take_of_length_le (by simp[hl])).symm
 have:cs=(cs.drop 0).take 1++((cs.drop 1).take 1++(cs.drop 2).take 1):=by
  rw[←a, ←EP cs 1 1];exact EP cs 0 1
 rw[this,e0,e1,e2];rfl
theorem RD {n:Nat} {cs:List Value} {y:DataW H×List MemPlace} (h:DataW.trod enc Tryz.prog W base (fun _=>true) true n 32 cs=some y):∃x:CE,x.Good W∧cs=x.cells.toList:=by
 obtain⟨xs,m,rfl,hx,hl,hxl,hf⟩:=DataW.trod_struct Tryz.underlying32 h;rw[Hn] at hl;have hx6:xs.length=6:=hxl;have g:=fun i (hi:i<6)=>(List.getElem?_eq_getElem (l:=xs) (i:=i) (by omega))
 have f0:=hf 0 ⟨ "Kind",5,0,false, "", "",0⟩ rfl;have f1:=hf 1 ⟨ "Name",9,1,false, "", "",8⟩ rfl;have f2:=hf 2 ⟨ "Key",29,2,false, "", "",24⟩ rfl;have f3:=hf 3 ⟨ "Value",29,3,false, "", "",48⟩ rfl;have f4:=hf 4 ⟨ "L",30,4,false, "", "",72⟩ rfl;have f5:=hf 5 ⟨ "Most",3,5,false, "", "",96⟩ rfl;rw[g 0 (by omega)] at f0;rw[g 1 (by omega)] at f1;rw[g 2 (by omega)] at f2;rw[g 3 (by omega)] at f3;rw[g 4 (by omega)] at f4;rw[g 5 (by omega)] at f5;simp only[Kf,Tk,Ms,L8,T7] at f0 f1 f2 f3 f4 f5;obtain⟨kd,e0,_,w0⟩:=DataW.trod_int Tryz.underlying5 f0;obtain⟨s,e1,hs1,hs2⟩:=DataW.trod_string Tryz.underlying9 f1;obtain⟨kv,kb,e2,h1,h2⟩:=Gw f2;obtain⟨vv,vb,e3,h3,h4⟩:=Gw f3;obtain⟨ao,l,cap,e4,h5,h6⟩:=Ut (m:=3) (by decide) (cells:=Ay.cells) Tryz.underlying30 KC (fun h=>QB h) f4;obtain⟨mo,e5,_,w5⟩:=DataW.trod_int Tryz.underlying3 f5
 have hcap:l.length≤cap∧cap≤maxLen:=by
  rcases open_slice Tryz.underlying30 f4 with⟨h0,_⟩|⟨a,len,cap',mm,n,D,Pl,hcs,hb,hl,hc,hmm,hx,hi⟩
  · rw[e4] at h0
    simp only[List.cons.injEq,Value.slice.injEq,and_true] at h0;omega
  rw[e4] at hcs;simp only[List.cons.injEq,Value.slice.injEq,and_true] at hcs;omega
 refine⟨⟨kd,s.data.toList,kv,kb,vv,vb,ao,l,cap,mo⟩,⟨bounds_u8 w0,by simpa using hs2,h1,h2,h3,h4,⟨h5,h6⟩,hcap,w5⟩,?_⟩;have a:cs.drop 5=(cs.drop 5).take 1:=(List.take_of_length_le (by simp[hl])).symm
 have:cs=(cs.drop 0).take 1++((cs.drop 1).take 1++((cs.drop 2).take 1++((cs.drop 3).take 1++((cs.drop 4).take 1++(cs.drop 5).take 1)))):=by
  rw[←a, ←EP cs 4 1, ←EP cs 3 1, ←EP cs 2 1, ←EP cs 1 1];exact EP cs 0 1
 rw[this,e0,e1,e2,e3,e4,e5];simp only[CE.cells,Tz];rfl
end
end Go.Proofs.YtngbdbpofifimaaGreat.Law15
