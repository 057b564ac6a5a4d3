/- Laws of the layers below. -/
import Derived.Test.YtngbdbpofifimaaGreatQl33
import Derived.WalkMore
set_option maxHeartbeats 3200000
set_option maxRecDepth 100000
set_option linter.unusedVariables false
namespace Go.Proofs.YtngbdbpofifimaaGreat.Store
open Go.RowKit Go.Proofs.YtngbdbpofifimaaGreat.ShaW Go.Proofs.YtngbdbpofifimaaGreat.Path
section
variable {w0 w : World} {s : Nat} {σ : AD Nd} {F G : Nat→Prop}
theorem Oy (h:At w s F σ) (n:Int) (d:Nat) (key:List UInt8) (hk:key.length=32) :
 Calls Tryz.prog 136 #[.pointer (some ⟨s,0,none⟩),.int .i64 n,.int .i64 d,.agg (AK key)] w fun e w'=>e=.returned (.int .i64 (Bg σ key n d))∧Adds w w':=by
 obtain⟨K,hK⟩:∃K,K=AK key:=⟨_,rfl⟩
 have hKs:K.size=32:=by rw[hK,AN,hk]
 have hb:=fun w1=>Gp key hk (d:Nat) w1
 unfold Bg;rw[←hK] at hb ⊢;obtain⟨bt,hbt⟩:∃b,b=bit key (d:Nat):=⟨_,rfl⟩
 rw[←hbt] at hb ⊢;have hsd:=IE (h.adds ((Ch.refl (fun _=>False) w).alloc (.cells K 47))) n;obtain⟨lf,hlf⟩:∃x,x=(nd σ n).left:=⟨_,rfl⟩
 obtain⟨rg,hrg⟩:∃x,x=(nd σ n).right:=⟨_,rfl⟩
 rw[←hlf, ←hrg] at hsd ⊢;have HS:=Lib.hid hsd;have HB:=Lib.hid hb;have HK:=Lib.hid hKs;clear h hb hK hbt hKs hsd hlf hrg;by_cases hz:bt=1
 · rw[if_pos hz]
   have e1:(bt == 1)=true:=by simpa using hz
   clear hz;go_enter Tryz.func136,Tryz.ntmps136;go_wp2_with fail;refine HS.out.mono ?_;rintro e w1 ⟨rfl,a1⟩;have H1:=(hIq (a1.row (heap_alloc_new w (.cells K 47)) id) (((Ch.refl (fun _=>False) w).alloc (.cells K 47)).trans a1 (fun _=>fEq)))
   clear a1
   go_wp2_with (first
    | fail
    | ((with_reducible show zOq (.load 47 _));refine AG rfl 47 _ rfl w.heap.size 0 rfl H1.out.1 Tryz.underlying47 rfl AY (by rw[HK.out];omega) K (by simp[←HK.out]) ?_))
   refine(HB.out _).mono ?_;rintro e w2 ⟨rfl,a2⟩;go_wp2;go_ret;exact⟨rfl,H1.out.2.trans a2 (fun _=>fEq)⟩
 rw[if_neg hz];have e1:(bt == 1)=false:=by simpa using hz
 clear hz;go_enter Tryz.func136,Tryz.ntmps136;go_wp2_with fail;refine HS.out.mono ?_;rintro e w1 ⟨rfl,a1⟩;have H1:=(hIq (a1.row (heap_alloc_new w (.cells K 47)) id) (((Ch.refl (fun _=>False) w).alloc (.cells K 47)).trans a1 (fun _=>fEq)))
 clear a1
 go_wp2_with (first
  | fail
  | ((with_reducible show zOq (.load 47 _));refine AG rfl 47 _ rfl w.heap.size 0 rfl H1.out.1 Tryz.underlying47 rfl AY (by rw[HK.out];omega) K (by simp[←HK.out]) ?_))
 refine(HB.out _).mono ?_;rintro e w2 ⟨rfl,a2⟩;go_wp2;go_ret;exact⟨rfl,H1.out.2.trans a2 (fun _=>fEq)⟩
theorem Lq (h:Ow w0 w s σ G) (d:Int) (key:List UInt8) (hk:key.length=32) (own other:Int) :
 Calls Tryz.prog 135 #[.pointer (some ⟨s,0,none⟩),.int .i64 d,.agg (AK key),.int .i64 own,.int .i64 other] w fun e w'=>e=.returned (.int .i64 (CU σ key d own other).1)∧Ow w0 w' s (CU σ key d own other).2.2 G∧But G w w':=by
 have hb:=Gp key hk d;unfold CU;obtain⟨K,hK⟩:∃K,K=AK key:=⟨_,rfl⟩
 have hKs:K.size=32:=by rw[hK,AN,hk]
 obtain⟨bt,hbt⟩:∃b,b=bit key d:=⟨_,rfl⟩
 rw[←hK, ←hbt] at hb;rw[←hK, ←hbt];have HB:=Lib.hid hb;have HA:=Lib.hid h;have HK:=Lib.hid hKs;clear hb h hK hbt hKs;have hin:=fun w1 (a:Adds w w1)=>(HA.out.adds a).inner d
 have HI:=Lib.hid hin;clear hin;by_cases hz:bt=1
 · rw[if_pos hz,if_pos hz]
   subst hz;go_enter Tryz.func135,Tryz.ntmps135
   go_wp2_with (first
    | fail
    | ((with_reducible show zOq (.load 47 _));refine AG rfl 47 _ rfl w.heap.size 0 rfl (heap_alloc_new w (.cells K 47)) Tryz.underlying47 rfl AY (by rw[HK.out];omega) K (by simp[←HK.out]) ?_))
   refine(HB.out _).mono ?_;rintro e w1 ⟨rfl,a1⟩;have A1:=Lib.hid (((Ch.refl (fun _=>False) w).alloc (.cells K 47)).trans a1 (fun _=>fEq));clear a1;go_wp2_with fail;refine(HI.out _ A1.out other own).mono ?_;rintro e w2 ⟨rfl,o2,b2⟩;go_wp2;go_ret;exact⟨rfl,o2,(Adds.but A1.out).then b2⟩
 rw[if_neg hz,if_neg hz];go_enter Tryz.func135,Tryz.ntmps135
 go_wp2_with (first
  | fail
  | ((with_reducible show zOq (.load 47 _));refine AG rfl 47 _ rfl w.heap.size 0 rfl (heap_alloc_new w (.cells K 47)) Tryz.underlying47 rfl AY (by rw[HK.out];omega) K (by simp[←HK.out]) ?_))
 refine(HB.out _).mono ?_;rintro e w1 ⟨rfl,a1⟩;have A1:=Lib.hid (((Ch.refl (fun _=>False) w).alloc (.cells K 47)).trans a1 (fun _=>fEq));clear a1;go_wp2_with fail;refine(HI.out _ A1.out own other).mono ?_;rintro e w2 ⟨rfl,o2,b2⟩;go_wp2;go_ret;exact⟨rfl,o2,(Adds.but A1.out).then b2⟩
theorem K4 {P:Program} {S:World→Prop} {Q:Exit→Act→World→Prop} {l:List Oper} {f n i:Nat} {r:List (Nat×Bool)} {a:Act} {w:World} {o:Oper} (ho:l[i]?=some o) (hw:Region.wanted o (yielded l.toArray a.tmps)=true) (ty:TypeId) (x:Operand) (hop:o.op=.load ty x) (g off k:Nat) (hx:a.eval x=.pointer (some ⟨g,off,none⟩))
 {t:TypeId} {cur:Array Value} {fr:Nat×Nat} {d:TypeDesc} (hg:∀w0,S w0→w0.heap[g]?=some (.cells cur t fr)) (hu:P.underlying ty=some d) (hd:d.isRow=true) (hi:(P.info? ty).map (·.size)=some k) (hfit:off+k≤cur.size) (cs:Array Value) (hv:cur.extract off (off+k)=cs)
 (h:DW P l Q f S n r (a.put o.dst (.agg cs)) w):DW P l Q f S n ((i,false)::r) a w :=
 planF_look ho hw (fun w0 hS=>by
  unfold execOp;simp only[hop,hx,Instr.loadAt,Instr.sureAddr,Sem.run_bind,Sem.run_pure,Result.andThen_ok,Bc w0 (hg w0 hS) hu hd hi hfit,hv]) h
noncomputable def BO (σ:AD Nd) (key:List UInt8) (l:List Int):Nat→Int→Int×Int×Bool
 | 0,st=>(st, -1,false)
 | m+1,st =>
  if Bg σ key (l.getD m 0) m=0 then BO σ key l m st
  else if st≠0 then (st,(m:Int),false)
  else if (nd σ (Bg σ key (l.getD m 0) m)).kind=1 then BO σ key l m (Bg σ key (l.getD m 0) m)
  else (Bg σ key (l.getD m 0) m,(m:Int),true)
def Az (σ:AD Nd) (key:List UInt8) (e:Int):Bool:=decide ((nd σ e).kind=1)&&decide ((nd σ e).key=key)
theorem Dx:(Tryz.prog.info? 230).map (·.size)=some 5:=by kernel_rfl
theorem look_ok (h:At w s F σ) (G:Good σ) (root:Int) (key:List UInt8) (hk:key.length=32) (hr:BS σ root=0) {l:List Int} {e1:Int} (ho:On (sk σ) key root 0 l e1) :
 Calls Tryz.prog 134 #[.pointer (some ⟨s,0,none⟩),.int .i64 root,.agg (AK key)] w fun e w'=>∃v,e=.returned (.agg #[v,.bool (Az σ key e1),.int .i64 (BO σ key l l.length 0).1,.int .i64 (BO σ key l l.length 0).2.1,.bool (BO σ key l l.length 0).2.2])∧w'.ownsRow w.heap.size 3 1 v l.length (hl l)∧Adds w w':=by
 obtain⟨K,hK⟩:∃K,K=AK key:=⟨_,rfl⟩
 have hKs:K.size=32:=by rw[hK,AN,hk]
 have hll:l.length≤256:=by have:=ho.len G.fit (by omega);omega
 have hha:=fun w1 (a:Adds w w1)=>Fl (h.adds a) G root key hk hr ho
 have hkl:=(h.ok e1).key;have heq:=FU 47 Tryz.underlying47 (nd σ e1).key key hkl hk;have hky:=fun w1 (a:Adds w w1)=>Key_ok (h.adds a) e1
 have hkd:=fun w1 (a:Adds w w1) n=>E3 (h.adds a) n
 have has:=fun w1 (a:Adds w w1) n (d:Nat)=>Oy (h.adds a) n d key hk
 rw[←hK] at hha has;have HA:=Lib.hid hha;have HY:=Lib.hid hky;have HD:=Lib.hid hkd;have HS:=Lib.hid has;have HK:=(hIq hKs hK)
 have HEQ:=Lib.hid heq;rw[←hK];clear hha heq hky hkd has hKs hK hkl h G ho hr;go_enter Tryz.func134,Tryz.ntmps134;obtain⟨W,hW⟩:∃W,W=(w.alloc (.cells K 47)).alloc (.cells #[.slice none 0 0,.bool false,.int .i64 0,.int .i64 0,.bool false] 230):=⟨_,rfl⟩
 have hWa:Adds w W:=by rw[hW];exact((Ch.refl _ _).alloc _).alloc _
 have hWk:W.heap[w.heap.size]?=some (.cells K 47 (0,0)):=by rw[hW];exact AM (heap_alloc_new _ _) _
 have hWp:W.heap[w.heap.size+1]?=some (.cells #[.slice none 0 0,.bool false,.int .i64 0,.int .i64 0,.bool false] 230 (0,0)):=by
  rw[hW];have:=heap_alloc_new (w.alloc (.cells K 47)) (.cells #[.slice none 0 0,.bool false,.int .i64 0,.int .i64 0,.bool false] 230);simpa using this
 have hWs:W.heap.size=w.heap.size+2:=by rw[hW];simp
 have HWS:=Lib.hid hWs;have HW:=(hIq hWa (aIq hWk hWp))
 clear hWa hWk hWp hWs;go_wp2;go_step3
 go_wp2_with (first
  | fail
  | ((with_reducible show zOq (.load 47 _));refine AG rfl 47 _ rfl w.heap.size 0 rfl (AM (heap_alloc_new w (.cells K 47)) _) Tryz.underlying47 rfl AY (by rw[HK.out.1];omega) K (by simp[←HK.out.1]) ?_))
 rw[←hW];refine(HA.out _ HW.out.1).mono ?_;rintro e w1 ⟨v1,rfl,o1,a1⟩;obtain⟨ao,cap,rfl⟩:=Aj o1;have hb1:w1.ownsRow w.heap.size 3 1 (.slice ao l.length cap) l.length (hl l):=o1.base (fun k hk=>Nat.le_trans HW.out.1.size (o1.lt k hk).1);have H1:=(hIq hb1 (aIq (a1.row HW.out.2.1 id) (aIq (a1.row HW.out.2.2 id) (HW.out.1.trans a1 (fun _=>fEq)))))
 have HOB:=Lib.hid (fun k (hk:(Value.slice ao l.length cap).ownBlock=some k)=>(by rw[←HWS.out];exact(o1.lt k hk).1:w.heap.size+2≤k));clear o1 a1 hb1 hW HW HA HWS;go_upto_region 2 with fail;go_cut [10] (fun s10 wx=>∃g,s10=.pointer (some ⟨g,0,none⟩)∧wx.heap[g]?=some (.cells #[.slice ao l.length cap,.bool (Az σ key e1),.int .i64 0,.int .i64 0,.bool false] 230 (0,0))∧Adds w1 wx∧w1.heap.size≤g)
 case first =>
  obtain⟨kd,hkd⟩:∃x,x=(nd σ e1).kind:=⟨_,rfl⟩
  have hD1:=fun w2 (a:Adds w w2)=>HD.out w2 a e1
  rw[←hkd] at hD1;have HD1:=Lib.hid hD1;have HKD:=Lib.hid hkd;clear hD1 hkd;obtain⟨eb,heb⟩:∃x,x=decide ((nd σ e1).key=key):=⟨_,rfl⟩
  obtain⟨K2,hK2⟩:∃x,x=AK (nd σ e1).key:=⟨_,rfl⟩
  have heq:=HEQ.out;have hy2:=HY.out;rw[←heb, ←hK2, ←HK.out.2] at heq;rw[←hK2] at hy2;have hth:Az σ key e1=(decide (kd=1)&&eb):=by unfold Az;rw[←HKD.out,heb]
  have HEQ2:=Lib.hid heq;have HY2:=Lib.hid hy2;clear heq hy2 heb hK2;by_cases hk1:kd=1
  · subst hk1
    have e1':(((1:Nat):Int) == 1)=true:=rfl;have HTH:=Lib.hid (show Az σ key e1=eb by rw[hth];rfl);clear hth;refine Dp 13 (fun w0=>w0.heap[w.heap.size]?=some (.cells K 47 (0,0))∧Adds w1 w0) 14 [(0,false),(1,false),(2,false),(3,true),(4,false),(5,false),(6,false),(7,false),(9,false),(8,true),(10,false),(11,false),(12,false)] (by kernel_rfl) (by kernel_rfl) ?_ ?_
    · exact⟨AP H1.out.2.1,(Ch.refl _ _).drew⟩
    iterate 3
     refine planF_look rfl rfl (fun w0 hS=>(by clear hS;go_simp;try rfl)) ?_;simp only[Act.put,nAq,nBq,nCq]
    refine GO rfl rfl ?_ ?_
    · go_wp2_with fail
      refine(HD1.out _ H1.out.2.2.2.drew).mono ?_;rintro e w3 ⟨rfl,a3⟩;have H3:=Lib.hid (((Ch.refl (fun _=>False) w1).drew).trans a3 (fun _=>fEq));clear a3;dsimp only;go_step;refine wpList_nil ?_;change _∧_;refine⟨⟨H3.out.row H1.out.2.1 id,H3.out⟩,?_⟩
      iterate 4
       refine planF_look rfl rfl (fun w0 hS=>(by clear hS;go_simp;try rfl)) ?_;simp only[Act.put,nAq,nBq,nCq]
      refine K4 (cur:=K) (t:=47) (fr:=(0,0)) rfl rfl 47 (.tmp 5) rfl w.heap.size 0 32 rfl (fun w0 hS=>hS.1) Tryz.underlying47 rfl AY (by rw[HK.out.1];omega) K (by simp[←HK.out.1]) ?_;simp only[Act.put,nAq,nBq,nCq];refine GO rfl rfl ?_ ?_
      · go_wp2_with fail
        refine(HY2.out _ (H1.out.2.2.2.trans H3.out (fun _=>fEq))).mono ?_;rintro e w4 ⟨rfl,a4⟩;have H4:=Lib.hid (H3.out.trans a4 (fun _=>fEq));clear a4;dsimp only;go_step;refine wpList_nil ?_;change _∧_;refine⟨⟨H4.out.row H1.out.2.1 id,H4.out⟩,?_⟩;refine planF_look (v:=.bool eb) rfl rfl (fun w0 hS=>(by have hq:=HEQ2.out w0;rw[run_eql_struct] at hq;clear hS;go_simp)) ?_;simp only[Act.put,nAq,nBq,nCq];refine planF_look (v:=.bool eb) rfl rfl (fun w0 hS=>(by clear hS;go_simp;try rfl)) ?_;simp only[Act.put,nAq,nBq,nCq];refine planF_look (v:=.agg #[.slice ao l.length cap,.bool eb,.int .i64 0,.int .i64 0,.bool false]) rfl rfl (fun w0 hS=>(by clear hS;go_simp;try rfl)) ?_;simp only[Act.put,nAq,nBq,nCq];refine Gc rfl ?_;go_wp2;refine⟨⟨AM (H4.out.row H1.out.2.1 id) _,H4.out.alloc _⟩,?_⟩;refine AZ ?_;simp only[List.drop_succ_cons,List.drop_zero]
        go_wp2_with (first
         | fail
         | ((with_reducible show zOq (.store 230 _ _));refine AE rfl 230 _ _ rfl w4.heap.size 0 #[.slice ao l.length cap,.bool eb,.int .i64 0,.int .i64 0,.bool false] rfl rfl (heap_alloc_new _ _) Dx (by simp) (by simp[Value.oneCell']) #[.slice ao l.length cap,.bool eb,.int .i64 0,.int .i64 0,.bool false] (by simp[splice]) ?_))
        refine NoPanic.normal ?_;go_wp2;go_meet;exact⟨w4.heap.size,rfl,by rw[HTH.out];exact AF (heap_alloc_new _ _) _,(H4.out.alloc _).setRow (.inr H4.out.size) _,H4.out.size⟩
      go_wp2;refine⟨⟨AM (H3.out.row H1.out.2.1 id) _,H3.out.alloc _⟩,?_⟩;refine AV rfl ?_;go_wp2_with fail;refine(HY2.out _ ((H1.out.2.2.2.trans H3.out (fun _=>fEq)).alloc _)).mono ?_;rintro e w4 ⟨rfl,a4⟩;have H4:=(hIq ((H3.out.alloc _).trans a4 (fun _=>fEq)) (a4.row (heap_alloc_new w3 (.cells #[.slice none 0 0,.bool false,.int .i64 0,.int .i64 0,.bool false] 230)) id))
      clear a4;dsimp only;go_step;refine wpList_nil ?_;change _∧_;refine⟨⟨H4.out.1.row H1.out.2.1 id,H4.out.1⟩,?_⟩;refine plan_look (v:=.bool eb) rfl rfl (fun w0 hS=>(by have hq:=HEQ2.out w0;rw[run_eql_struct] at hq;clear hS;go_simp)) ?_;simp only[Act.put,nAq,nBq,nCq];refine plan_look (v:=.bool eb) rfl rfl (fun w0 hS=>(by clear hS;go_simp;try rfl)) ?_;simp only[Act.put,nAq,nBq,nCq];refine plan_look (v:=.agg #[.slice ao l.length cap,.bool eb,.int .i64 0,.int .i64 0,.bool false]) rfl rfl (fun w0 hS=>(by clear hS;go_simp;try rfl)) ?_;simp only[Act.put,nAq,nBq,nCq];refine AZ ?_;simp only[List.drop_succ_cons,List.drop_zero]
      go_wp2_with (first
       | fail
       | ((with_reducible show zOq (.store 230 _ _));refine AE rfl 230 _ _ rfl w3.heap.size 0 #[.slice ao l.length cap,.bool eb,.int .i64 0,.int .i64 0,.bool false] rfl rfl H4.out.2 Dx (by simp) (by simp[Value.oneCell']) #[.slice ao l.length cap,.bool eb,.int .i64 0,.int .i64 0,.bool false] (by simp[splice]) ?_))
      refine NoPanic.normal ?_;go_wp2;go_meet;exact⟨w3.heap.size,rfl,by rw[HTH.out];exact AF H4.out.2 _,(H4.out.1).setRow (.inr H3.out.size) _,H3.out.size⟩
    go_wp2;refine⟨⟨AP (AM H1.out.2.1 _),((Ch.refl _ _).alloc _).drew⟩,?_⟩;refine AV rfl ?_;go_wp2_with fail;refine(HD1.out _ (H1.out.2.2.2.alloc _).drew).mono ?_;rintro e w3 ⟨rfl,a3⟩;have H3:=(hIq ((((Ch.refl (fun _=>False) w1).alloc _).drew).trans a3 (fun _=>fEq)) (a3.row (AP (heap_alloc_new w1 (.cells #[.slice none 0 0,.bool false,.int .i64 0,.int .i64 0,.bool false] 230))) id))
    clear a3;dsimp only;go_step;refine wpList_nil ?_;change _∧_;refine⟨⟨H3.out.1.row H1.out.2.1 id,H3.out.1⟩,?_⟩
    iterate 4
     refine plan_look rfl rfl (fun w0 hS=>(by clear hS;go_simp;try rfl)) ?_;simp only[Act.put,nAq,nBq,nCq]
    refine Aw (cur:=K) (t:=47) (fr:=(0,0)) rfl rfl 47 (.tmp 5) rfl w.heap.size 0 32 rfl (fun w0 hS=>hS.1) Tryz.underlying47 rfl AY (by rw[HK.out.1];omega) K (by simp[←HK.out.1]) ?_;simp only[Act.put,nAq,nBq,nCq];refine AV rfl ?_;go_wp2_with fail;refine(HY2.out _ (H1.out.2.2.2.trans H3.out.1 (fun _=>fEq))).mono ?_;rintro e w4 ⟨rfl,a4⟩;have H4:=(hIq (H3.out.1.trans a4 (fun _=>fEq)) (a4.row H3.out.2 id))
    clear a4;dsimp only;go_step;refine wpList_nil ?_;change _∧_;refine⟨⟨H4.out.1.row H1.out.2.1 id,H4.out.1⟩,?_⟩;refine plan_look (v:=.bool eb) rfl rfl (fun w0 hS=>(by have hq:=HEQ2.out w0;rw[run_eql_struct] at hq;clear hS;go_simp)) ?_;simp only[Act.put,nAq,nBq,nCq];refine plan_look (v:=.bool eb) rfl rfl (fun w0 hS=>(by clear hS;go_simp;try rfl)) ?_;simp only[Act.put,nAq,nBq,nCq];refine plan_look (v:=.agg #[.slice ao l.length cap,.bool eb,.int .i64 0,.int .i64 0,.bool false]) rfl rfl (fun w0 hS=>(by clear hS;go_simp;try rfl)) ?_;simp only[Act.put,nAq,nBq,nCq];refine AZ ?_;simp only[List.drop_succ_cons,List.drop_zero]
    go_wp2_with (first
     | fail
     | ((with_reducible show zOq (.store 230 _ _));refine AE rfl 230 _ _ rfl w1.heap.size 0 #[.slice ao l.length cap,.bool eb,.int .i64 0,.int .i64 0,.bool false] rfl rfl H4.out.2 Dx (by simp) (by simp[Value.oneCell']) #[.slice ao l.length cap,.bool eb,.int .i64 0,.int .i64 0,.bool false] (by simp[splice]) ?_))
    refine NoPanic.normal ?_;go_wp2;go_meet;exact⟨w1.heap.size,rfl,by rw[HTH.out];exact AF H4.out.2 _,(H4.out.1).setRow (.inr (Nat.le_refl _)) _,(Nat.le_refl _)⟩
  have e1':((kd:Int) == 1)=false:=by simpa using (show ¬(kd:Int)=1 by omega)
  have e2':decide ((kd:Int)=1)=false:=decide_eq_false (by omega);have HTH:=Lib.hid (show Az σ key e1=false by rw[hth,decide_eq_false hk1];rfl);clear hk1 hth;refine Dp 13 (fun w0=>w0.heap[w.heap.size]?=some (.cells K 47 (0,0))∧Adds w1 w0) 14 [(0,false),(1,false),(2,false),(3,true),(4,false),(5,false),(6,false),(7,false),(9,false),(8,false),(10,false),(11,false),(12,false)] (by kernel_rfl) (by kernel_rfl) ?_ ?_
  · exact⟨AP H1.out.2.1,(Ch.refl _ _).drew⟩
  iterate 3
   refine planF_look rfl rfl (fun w0 hS=>(by clear hS;go_simp;try rfl)) ?_;simp only[Act.put,nAq,nBq,nCq]
  refine GO rfl rfl ?_ ?_
  · go_wp2_with fail
    refine(HD1.out _ H1.out.2.2.2.drew).mono ?_;rintro e w3 ⟨rfl,a3⟩;have H3:=Lib.hid (((Ch.refl (fun _=>False) w1).drew).trans a3 (fun _=>fEq));clear a3;dsimp only;go_step;refine wpList_nil ?_;change _∧_;refine⟨⟨H3.out.row H1.out.2.1 id,H3.out⟩,?_⟩
    iterate 2
     refine planF_look rfl rfl (fun w0 hS=>(by clear hS;go_simp;try rfl)) ?_;simp only[Act.put,nAq,nBq,nCq]
    iterate 5
     refine RZ rfl (by rfl) ?_;simp only[Act.put,nAq,nBq,nCq]
    refine planF_look (v:=.bool false) rfl rfl (fun w0 hS=>(by clear hS;go_simp;try rfl)) ?_;simp only[Act.put,nAq,nBq,nCq];refine planF_look (v:=.agg #[.slice ao l.length cap,.bool false,.int .i64 0,.int .i64 0,.bool false]) rfl rfl (fun w0 hS=>(by clear hS;go_simp;try rfl)) ?_;simp only[Act.put,nAq,nBq,nCq];refine Gc rfl ?_;go_wp2;refine⟨⟨AM (H3.out.row H1.out.2.1 id) _,H3.out.alloc _⟩,?_⟩;refine AZ ?_;simp only[List.drop_succ_cons,List.drop_zero]
    go_wp2_with (first
     | fail
     | ((with_reducible show zOq (.store 230 _ _));refine AE rfl 230 _ _ rfl w3.heap.size 0 #[.slice ao l.length cap,.bool false,.int .i64 0,.int .i64 0,.bool false] rfl rfl (heap_alloc_new _ _) Dx (by simp) (by simp[Value.oneCell']) #[.slice ao l.length cap,.bool false,.int .i64 0,.int .i64 0,.bool false] (by simp[splice]) ?_))
    refine NoPanic.normal ?_;go_wp2;go_meet;exact⟨w3.heap.size,rfl,by rw[HTH.out];exact AF (heap_alloc_new _ _) _,(H3.out.alloc _).setRow (.inr H3.out.size) _,H3.out.size⟩
  go_wp2;refine⟨⟨AP (AM H1.out.2.1 _),((Ch.refl _ _).alloc _).drew⟩,?_⟩;refine AV rfl ?_;go_wp2_with fail;refine(HD1.out _ (H1.out.2.2.2.alloc _).drew).mono ?_;rintro e w3 ⟨rfl,a3⟩;have H3:=(hIq ((((Ch.refl (fun _=>False) w1).alloc _).drew).trans a3 (fun _=>fEq)) (a3.row (AP (heap_alloc_new w1 (.cells #[.slice none 0 0,.bool false,.int .i64 0,.int .i64 0,.bool false] 230))) id))
  clear a3;dsimp only;go_step;refine wpList_nil ?_;change _∧_;refine⟨⟨H3.out.1.row H1.out.2.1 id,H3.out.1⟩,?_⟩
  iterate 2
   refine plan_look rfl rfl (fun w0 hS=>(by clear hS;go_simp;try rfl)) ?_;simp only[Act.put,nAq,nBq,nCq]
  iterate 5
   refine CL rfl (by rfl) ?_;simp only[Act.put,nAq,nBq,nCq]
  refine plan_look (v:=.bool false) rfl rfl (fun w0 hS=>(by clear hS;go_simp;try rfl)) ?_;simp only[Act.put,nAq,nBq,nCq];refine plan_look (v:=.agg #[.slice ao l.length cap,.bool false,.int .i64 0,.int .i64 0,.bool false]) rfl rfl (fun w0 hS=>(by clear hS;go_simp;try rfl)) ?_;simp only[Act.put,nAq,nBq,nCq];refine AZ ?_;simp only[List.drop_succ_cons,List.drop_zero]
  go_wp2_with (first
   | fail
   | ((with_reducible show zOq (.store 230 _ _));refine AE rfl 230 _ _ rfl w1.heap.size 0 #[.slice ao l.length cap,.bool false,.int .i64 0,.int .i64 0,.bool false] rfl rfl H3.out.2 Dx (by simp) (by simp[Value.oneCell']) #[.slice ao l.length cap,.bool false,.int .i64 0,.int .i64 0,.bool false] (by simp[splice]) ?_))
  refine NoPanic.normal ?_;go_wp2;go_meet;exact⟨w1.heap.size,rfl,by rw[HTH.out];exact AF H3.out.2 _,(H3.out.1).setRow (.inr (Nat.le_refl _)) _,(Nat.le_refl _)⟩
 obtain⟨g,rfl,hg1,hg2,hg3⟩:=hcut;have hz1:=Ac H1.out.2.2.1;have HG:=(hIq hg1 (aIq hg2 (aIq (show w.heap.size+1<g by omega) hg3)))
 clear hg1 hg2 hg3 hz1 HY HEQ;go_wp2_with fail;go_step3;go_wp2_with fail
 go_loopg [11,12,52,55,59] l.length (fun gg s11 s12 s52 s55 s59 wr=>∃(x st:Int),s11=.int .i64 x∧x=(gg:Int)-1∧gg≤l.length∧BO σ key l l.length 0=BO σ key l gg st ∧
  wr.heap[g]?=some (.cells #[.slice ao l.length cap,.bool (Az σ key e1),.int .i64 st,.int .i64 0,.bool false] 230 (0,0))∧Adds w1 wr)
 case atStart=>exact⟨_,0,rfl,rfl,Nat.le_refl _,rfl,HG.out.1,HG.out.2.1⟩
 obtain⟨x,st,rfl,hx,hgl,hlk,hrow,hA⟩:=hrel;have q2:=AH hrow (i:=2) rfl;have q3:=AH hrow (i:=3) rfl;have q4:=AH hrow (i:=4) rfl;have f2:=Al hrow 2;have f3:=Al hrow 3;have f4:=Al hrow 4;have HR:=(hIq hlk (aIq hrow hA))
 clear hlk hrow hA;rcases Nat.eq_zero_or_pos gk with h0|h0
 · subst h0
   have hx1:decide ((0:Int)≤x)=false:=decide_eq_false (by omega);have hxe:x = -1:=by omega
   subst hxe;clear hx;go_upto_region 13 with fail;obtain⟨w9,hw9⟩:∃w9,w9=wr.setCell ⟨g,3,none⟩ (.int .i64 (-1)):=⟨_,rfl⟩
   rw[←hw9]
   have r9:w9.heap[g]?=some (.cells #[.slice ao l.length cap,.bool (Az σ key e1),.int .i64 st,.int .i64 (-1),.bool false] 230 (0,0)):=by
    rw[hw9];have:=AQ HR.out.2.1 3 (.int .i64 (-1));simpa using this
   have A9:Adds w1 w9:=by rw[hw9];exact HR.out.2.2.setCell (.inr HG.out.2.2.2) _
   have p9:=A9.row H1.out.2.2.1 id
   have o9:(w9.setRow (w.heap.size+1) #[.slice ao l.length cap,.bool (Az σ key e1),.int .i64 st,.int .i64 (-1),.bool false]).ownsRow w.heap.size 3 1 (.slice ao l.length cap) l.length (hl l):=by
    refine((Ch.refl (fun k=>k=w.heap.size+1) w9).setRow (.inl rfl) _).owns (A9.owns H1.out.1 (fun _ _ h=>h)) (fun k hk hkk=>?_);have:=HOB.out k hk;omega
   have H9:=(hIq r9 (aIq p9 (aIq o9 ((H1.out.2.2.2.trans A9 (fun _=>fEq)).setRow (.inr (Nat.le_succ _)) #[.slice ao l.length cap,.bool (Az σ key e1),.int .i64 st,.int .i64 (-1),.bool false]))))
   clear r9 p9 o9 A9 hw9
   go_wp2_with (first
    | fail
    | ((with_reducible show zOq (.load 230 _));refine AG rfl 230 _ rfl g 0 rfl H9.out.1 Tryz.underlying230 rfl Dx (by simp) #[.slice ao l.length cap,.bool (Az σ key e1),.int .i64 st,.int .i64 (-1),.bool false] (by simp) ?_)
    | ((with_reducible show zOq (.store 230 _ _));refine AE rfl 230 _ _ rfl (w.heap.size+1) 0 #[.slice ao l.length cap,.bool (Az σ key e1),.int .i64 st,.int .i64 (-1),.bool false] rfl rfl H9.out.2.1 Dx (by simp) (by simp[Value.oneCell']) #[.slice ao l.length cap,.bool (Az σ key e1),.int .i64 st,.int .i64 (-1),.bool false] (by simp[splice]) ?_))
   rw[Exit.noGoto_ret];refine AW (p:=6) (cs:=#[.slice ao l.length cap,.bool (Az σ key e1),.int .i64 st,.int .i64 (-1),.bool false]) rfl rfl (AF H9.out.2.1 _) Tryz.underlying230 rfl (by rw[Dx];rfl) rfl ⟨.slice ao l.length cap,?_,H9.out.2.2.1,H9.out.2.2.2⟩;rw[HR.out.1];rfl
 obtain⟨j,rfl⟩:∃j,gk=j+1:=⟨gk-1,by omega⟩
 have hxe:x=(j:Int):=by omega
 subst hxe;have hx1:decide ((0:Int)≤(j:Int))=true:=decide_eq_true (by omega);have hlt:j<l.length:=by omega
 have hlti:(j:Int)<(l.length:Int):=by omega
 have hj256:(j:Int)≤256:=by omega
 obtain⟨h1,hget⟩:∃h1,l[j]?=some h1:=⟨_,List.getElem?_eq_getElem hlt⟩
 obtain⟨ga,hao⟩:∃ga,ao=some ⟨ga,0,none⟩:=by
  obtain⟨_,h|⟨g0,cap',cur,h,_⟩⟩:=H1.out.1
  · exact absurd h.2 (by omega)
  injection h with h _ _;exact⟨g0,h⟩
 subst hao
 have hcell1:w1.cell? ⟨ga,j,none⟩=some (.int .i64 h1):=by
  rw[H1.out.1.cellAt j (by omega)];unfold Store.hl;rw[List.getElem?_map,hget];rfl
 have hcell:wr.cell? ⟨ga,j,none⟩=some (.int .i64 h1):=HR.out.2.2.cell hcell1 id;have hgd:l.getD j 0=h1:=by simp[hget]
 have hlk:=HR.out.1;rw[show BO σ key l (j+1) st=(if Bg σ key (l.getD j 0) j=0 then BO σ key l j st else if st≠0 then (st,(j:Int),false) else if (nd σ (Bg σ key (l.getD j 0) j)).kind=1 then BO σ key l j (Bg σ key (l.getD j 0) j) else (Bg σ key (l.getD j 0) j,(j:Int),true)) from rfl,hgd] at hlk;have hcon:=fun w2 (a:Adds w w2)=>HS.out w2 a h1 j
 obtain⟨o,ho⟩:∃o,o=Bg σ key h1 j:=⟨_,rfl⟩
 rw[←ho] at hlk hcon;have HLK:=Lib.hid hlk;have HCON:=Lib.hid hcon;have HCE:=Lib.hid hcell;clear hlk hcon ho hgd hcell1 hx h0 hget q2 q3 q4 f2 f3 f4 hcell;go_wp2;refine AO (fun w0=>w0.heap[w.heap.size]?=some (.cells K 47 (0,0))∧w0.cell? ⟨ga,j,none⟩=some (.int .i64 h1)) 8 [(0,false),(1,false),(2,false),(3,false),(4,false),(5,false),(6,false),(7,true)] (by kernel_rfl) (by kernel_rfl) ?_ ?_
 · exact⟨AP ((HR.out.2.2).row H1.out.2.1 id),HCE.out⟩
 iterate 4
  refine plan_look rfl rfl (fun w0 hS=>(by clear hS;go_simp;try rfl)) ?_;simp only[Act.put,nAq,nBq,nCq]
 refine plan_look (v:=.int .i64 h1) rfl rfl (fun w0 hS=>(by have e0:=hS.2;clear hS;go_simp;try rfl)) ?_;simp only[Act.put,nAq,nBq,nCq];refine plan_look rfl rfl (fun w0 hS=>(by clear hS;go_simp;try rfl)) ?_;simp only[Act.put,nAq,nBq,nCq];refine Ah (cur:=K) (t:=47) (fr:=(0,0)) rfl rfl 47 (.tmp 5) rfl w.heap.size 0 32 rfl (fun w0 hS=>hS.1) Tryz.underlying47 rfl AY (by rw[HK.out.1];omega) K (by simp[←HK.out.1]) ?_;simp only[Act.put,nAq,nBq,nCq];refine AV rfl ?_;go_wp2_with fail;refine(HCON.out _ ((H1.out.2.2.2.trans HR.out.2.2 (fun _=>fEq)).drew)).mono ?_;rintro e w3 ⟨rfl,a3⟩;have a3':Adds wr w3:=((Ch.refl (fun _=>False) wr).drew).trans a3 (fun _=>fEq);have H3:=(hIq (a3'.row HR.out.2.1 id) (HR.out.2.2.trans a3' (fun _=>fEq)))
 have HC3:=Lib.hid (a3'.cell HCE.out id);clear a3 a3' HCE;dsimp only;go_step;refine wpList_nil ?_;change _∧_;refine⟨⟨H3.out.2.row H1.out.2.1 id,HC3.out⟩,?_⟩;refine AZ ?_;simp only[List.drop_succ_cons,List.drop_zero];go_wp2;refine NoPanic.normal ?_;have q2:=AH H3.out.1 (i:=2) rfl;have q3:=AH H3.out.1 (i:=3) rfl;have q4:=AH H3.out.1 (i:=4) rfl;have f2:=Al H3.out.1 2;have f3:=Al H3.out.1 3;have f4:=Al H3.out.1 4;by_cases ho0:o=0
 · have eo:(o == 0)=true:=by simpa using ho0
   have hlk:=HLK.out;rw[if_pos ho0] at hlk;have HLK2:=Lib.hid hlk;clear hlk ho0;go_wp2_with fail;go_roundg j
   case measure=>omega
   exact⟨_,st,rfl,rfl,by omega,HLK2.out,H3.out.1,H3.out.2⟩
 have eo:(o == 0)=false:=by simpa using ho0
 have hlk:=HLK.out;rw[if_neg ho0] at hlk;by_cases hst:st=0
 · subst hst
   rw[if_neg (by simp)] at hlk;have hkc:=fun w2 (a:Adds w w2)=>HD.out w2 a o
   obtain⟨kd,hkd⟩:∃x,x=(nd σ o).kind:=⟨_,rfl⟩
   rw[←hkd] at hkc hlk;have HKC:=Lib.hid hkc;by_cases hk1:kd=1
   · rw[if_pos hk1] at hlk
     have e1':((kd:Int) == 1)=true:=by rw[hk1];rfl
     have HLK2:=Lib.hid hlk;clear hlk ho0 hkc hkd hk1 HLK;go_wp2_with fail;refine(HKC.out _ (H1.out.2.2.2.trans H3.out.2 (fun _=>fEq))).mono ?_;rintro e w4 ⟨rfl,a4⟩;have H4:=(hIq (a4.row H3.out.1 id) (H3.out.2.trans a4 (fun _=>fEq)))
     clear a4 q2 q3 q4 f2 f3 f4;have q2:=AH H4.out.1 (i:=2) rfl;have q3:=AH H4.out.1 (i:=3) rfl;have q4:=AH H4.out.1 (i:=4) rfl;have f2:=Al H4.out.1 2;have f3:=Al H4.out.1 3;have f4:=Al H4.out.1 4;go_wp2_with fail;go_roundg j
     case measure=>omega
     exact⟨_,o,rfl,rfl,by omega,HLK2.out,by have:=AQ H4.out.1 2 (.int .i64 o);simpa using this,H4.out.2.setCell (.inr HG.out.2.2.2) _⟩
   rw[if_neg hk1] at hlk;have e1':((kd:Int) == 1)=false:=by simpa using (show ¬(kd:Int)=1 by omega)
   have HLK2:=Lib.hid hlk;clear hlk ho0 hkc hkd hk1 HLK;go_wp2_with fail;refine(HKC.out _ (H1.out.2.2.2.trans H3.out.2 (fun _=>fEq))).mono ?_;rintro e w4 ⟨rfl,a4⟩;have H4:=(hIq (a4.row H3.out.1 id) (H3.out.2.trans a4 (fun _=>fEq)))
   have HLK:=HLK2;clear a4 q2 q3 q4 f2 f3 f4 HLK2;have q2:=AH H4.out.1 (i:=2) rfl;have q3:=AH H4.out.1 (i:=3) rfl;have q4:=AH H4.out.1 (i:=4) rfl;have f2:=Al H4.out.1 2;have f3:=Al H4.out.1 3;have f4:=Al H4.out.1 4;go_upto_region 13 with fail;obtain⟨w9,hw9⟩:∃w9,w9=((w4.setCell ⟨g,2,none⟩ (.int .i64 o)).setCell ⟨g,4,none⟩ (.bool true)).setCell ⟨g,3,none⟩ (.int .i64 j):=⟨_,rfl⟩
   rw[←hw9]
   have r9:w9.heap[g]?=some (.cells #[.slice (some ⟨ga,0,none⟩) l.length cap,.bool (Az σ key e1),.int .i64 o,.int .i64 j,.bool true] 230 (0,0)):=by
    rw[hw9];have:=AQ (AQ (AQ H4.out.1 2 (.int .i64 o)) 4 (.bool true)) 3 (.int .i64 j);simpa using this
   have A9:Adds w1 w9:=by rw[hw9];exact((H4.out.2.setCell (.inr HG.out.2.2.2) _).setCell (.inr HG.out.2.2.2) _).setCell (.inr HG.out.2.2.2) _
   have p9:=A9.row H1.out.2.2.1 id
   have o9:(w9.setRow (w.heap.size+1) #[.slice (some ⟨ga,0,none⟩) l.length cap,.bool (Az σ key e1),.int .i64 o,.int .i64 j,.bool true]).ownsRow w.heap.size 3 1 (.slice (some ⟨ga,0,none⟩) l.length cap) l.length (hl l):=by
    refine((Ch.refl (fun k=>k=w.heap.size+1) w9).setRow (.inl rfl) _).owns (A9.owns H1.out.1 (fun _ _ h=>h)) (fun k hk hkk=>?_);have:=HOB.out k hk;omega
   have H9:=(hIq r9 (aIq p9 (aIq o9 ((H1.out.2.2.2.trans A9 (fun _=>fEq)).setRow (.inr (Nat.le_succ _)) #[.slice (some ⟨ga,0,none⟩) l.length cap,.bool (Az σ key e1),.int .i64 o,.int .i64 j,.bool true]))))
   clear r9 p9 o9 A9 hw9
   go_wp2_with (first
    | fail
    | ((with_reducible show zOq (.load 230 _));refine AG rfl 230 _ rfl g 0 rfl H9.out.1 Tryz.underlying230 rfl Dx (by simp) #[.slice (some ⟨ga,0,none⟩) l.length cap,.bool (Az σ key e1),.int .i64 o,.int .i64 j,.bool true] (by simp) ?_)
    | ((with_reducible show zOq (.store 230 _ _));refine AE rfl 230 _ _ rfl (w.heap.size+1) 0 #[.slice (some ⟨ga,0,none⟩) l.length cap,.bool (Az σ key e1),.int .i64 o,.int .i64 j,.bool true] rfl rfl H9.out.2.1 Dx (by simp) (by simp[Value.oneCell']) #[.slice (some ⟨ga,0,none⟩) l.length cap,.bool (Az σ key e1),.int .i64 o,.int .i64 j,.bool true] (by simp[splice]) ?_))
   rw[Exit.noGoto_ret];refine AW (p:=6) (cs:=#[.slice (some ⟨ga,0,none⟩) l.length cap,.bool (Az σ key e1),.int .i64 o,.int .i64 j,.bool true]) rfl rfl (AF H9.out.2.1 _) Tryz.underlying230 rfl (by rw[Dx];rfl) rfl ⟨.slice (some ⟨ga,0,none⟩) l.length cap,?_,H9.out.2.2.1,H9.out.2.2.2⟩;rw[HLK.out]
 have est:(st != 0)=true:=by simpa using hst
 rw[if_pos hst] at hlk;have HLK2:=Lib.hid hlk;clear hlk ho0 hst HLK;have HLK:=HLK2;clear HLK2;go_upto_region 13 with fail;obtain⟨w9,hw9⟩:∃w9,w9=w3.setCell ⟨g,3,none⟩ (.int .i64 j):=⟨_,rfl⟩
 rw[←hw9]
 have r9:w9.heap[g]?=some (.cells #[.slice (some ⟨ga,0,none⟩) l.length cap,.bool (Az σ key e1),.int .i64 st,.int .i64 j,.bool false] 230 (0,0)):=by
  rw[hw9];have:=AQ H3.out.1 3 (.int .i64 j);simpa using this
 have A9:Adds w1 w9:=by rw[hw9];exact H3.out.2.setCell (.inr HG.out.2.2.2) _
 have p9:=A9.row H1.out.2.2.1 id
 have o9:(w9.setRow (w.heap.size+1) #[.slice (some ⟨ga,0,none⟩) l.length cap,.bool (Az σ key e1),.int .i64 st,.int .i64 j,.bool false]).ownsRow w.heap.size 3 1 (.slice (some ⟨ga,0,none⟩) l.length cap) l.length (hl l):=by
  refine((Ch.refl (fun k=>k=w.heap.size+1) w9).setRow (.inl rfl) _).owns (A9.owns H1.out.1 (fun _ _ h=>h)) (fun k hk hkk=>?_);have:=HOB.out k hk;omega
 have H9:=(hIq r9 (aIq p9 (aIq o9 ((H1.out.2.2.2.trans A9 (fun _=>fEq)).setRow (.inr (Nat.le_succ _)) #[.slice (some ⟨ga,0,none⟩) l.length cap,.bool (Az σ key e1),.int .i64 st,.int .i64 j,.bool false]))))
 clear r9 p9 o9 A9 hw9
 go_wp2_with (first
  | fail
  | ((with_reducible show zOq (.load 230 _));refine AG rfl 230 _ rfl g 0 rfl H9.out.1 Tryz.underlying230 rfl Dx (by simp) #[.slice (some ⟨ga,0,none⟩) l.length cap,.bool (Az σ key e1),.int .i64 st,.int .i64 j,.bool false] (by simp) ?_)
  | ((with_reducible show zOq (.store 230 _ _));refine AE rfl 230 _ _ rfl (w.heap.size+1) 0 #[.slice (some ⟨ga,0,none⟩) l.length cap,.bool (Az σ key e1),.int .i64 st,.int .i64 j,.bool false] rfl rfl H9.out.2.1 Dx (by simp) (by simp[Value.oneCell']) #[.slice (some ⟨ga,0,none⟩) l.length cap,.bool (Az σ key e1),.int .i64 st,.int .i64 j,.bool false] (by simp[splice]) ?_))
 rw[Exit.noGoto_ret];refine AW (p:=6) (cs:=#[.slice (some ⟨ga,0,none⟩) l.length cap,.bool (Az σ key e1),.int .i64 st,.int .i64 j,.bool false]) rfl rfl (AF H9.out.2.1 _) Tryz.underlying230 rfl (by rw[Dx];rfl) rfl ⟨.slice (some ⟨ga,0,none⟩) l.length cap,?_,H9.out.2.2.1,H9.out.2.2.2⟩;rw[HLK.out]
end
end Go.Proofs.YtngbdbpofifimaaGreat.Store
