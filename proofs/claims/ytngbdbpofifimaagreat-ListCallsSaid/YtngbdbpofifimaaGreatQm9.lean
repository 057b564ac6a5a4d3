/- Laws of the layers below. -/
import Derived.Test.YtngbdbpofifimaaGreatQm8
set_option maxHeartbeats 3200000
set_option maxRecDepth 100000
set_option linter.unusedVariables false
namespace Go.Proofs.YtngbdbpofifimaaGreat
open Go.RowKit
section
variable {P : Program} {Q : Exit→Act→World→Prop} {S : World→Prop}
theorem FV {l:List Oper} {n i:Nat} {r:List (Nat×Bool)} {a:Act} {w:World} {o:Oper} (ho:l[i]?=some o) (hgd:o.guard=none) (t:TypeId) (parts:Array (Nat×Operand)) (hop:o.op=.build t parts)
 (vals:List (Nat×Value)) (hv:(parts.toList.map fun p=>(p.1,a.eval p.2))=vals) (cells:Array Value) (hf:P.built t vals=some cells)
 (h:BQ P l Q S n r (a.put o.dst (.agg cells)) w):BQ P l Q S n ((i,false)::r) a w :=
 plan_look ho (by simp[Region.wanted,hgd]) (fun w0 _=>by
  subst hv;unfold execOp;have:=run_build (P:=P) w0 t (parts.map fun(i,x)=>(i,a.eval x)) cells (by rw[Array.toList_map];exact hf);simp only[hop,Sem.run_bind,this,Result.andThen_ok];rfl) h
end
end Go.Proofs.YtngbdbpofifimaaGreat
namespace Go.Proofs.YtngbdbpofifimaaGreat.Store
open Go.RowKit Go.Proofs.YtngbdbpofifimaaGreat.ShaW Go.Proofs.YtngbdbpofifimaaGreat.Path
theorem QW {w:World} {s:Nat} {F:Nat→Prop} {σ:AG Nd} (h:At w s F σ) (K:Array Value) {ao:Option Addr} {len cap:Nat} (hl:1024<len) :
 Calls Tryz.prog 127 #[.pointer (some ⟨s,0,none⟩),.agg K,.slice ao len cap] w fun e w'=>e=.returned (.tuple #[.int .i64 0,.int .i64 4])∧AN w w':=by
 obtain⟨a,G,h1,_⟩:=h;have HR:=Lib.hid (AQ h1 (.cells K 47));have hl':(1024:Int)<(len:Int):=by omega
 clear h1;go_enter Tryz.func127,Tryz.ntmps127;go_wp2_with fail;refine(An HR.out).mono ?_;rintro e w1 ⟨rfl,rfl⟩;go_wp2;go_ret2;exact⟨rfl,(Ch.refl _ _).alloc _⟩
theorem RP {w:World} {s:Nat} {F:Nat→Prop} {σ:AG Nd} (h:At w s F σ) (key:List UInt8) (hk:key.length=32) {vv:Value} {bs:List UInt8} (hb:Bytes w vv bs) (hv:bs ≠ []→∀k,vv.ownBlock=some k→k<w.heap.size) (hlen:bs.length≤1024) :
 Calls Tryz.prog 127 #[.pointer (some ⟨s,0,none⟩),.agg (AS key),vv] w fun e w'=>∃v,e=.returned (.tuple #[.int .i64 (As σ key bs v).1,.int .i64 (As σ key bs v).2.1])∧BF w w' s F (As σ key bs v).2.2:=by
 have hls:∀v,As σ key bs v=σ.take (Nd.leaf (Tag.D4 key (Tag.Bb bs)) key (Tag.Bb bs) bs v):=fun v=>by unfold As;rw[if_neg (by omega)]
 have hvl:=Tag.Hu (w:=w.alloc (.cells (AS key) 47)) (hb.Ae ((Ch.refl (fun _=>False) w).alloc _) (fun _ _ h=>h)) (fun h0 k hk=>by have:=hv h0 k hk;simp;omega) (by omega);have hleaf:=fun w=>Tag.MU key (Tag.Bb bs) hk (Tag.BM _ _) w
 obtain⟨ao,cap,rfl,_,_⟩:=hb.form;obtain⟨D,hD⟩:∃D,D=Tag.D4 key (Tag.Bb bs):=⟨_,rfl⟩
 obtain⟨H,hH⟩:∃H,H=Tag.Bb bs:=⟨_,rfl⟩
 have hDl:D.length=32:=by rw[hD];exact Tag.BM _ _
 have hHl:H.length=32:=by rw[hH];exact Tag.BM _ _
 rw[←hH] at hvl hleaf hls;rw[←hH] at hD;rw[←hD] at hleaf hls;obtain⟨K,hK⟩:∃K,K=AS key:=⟨_,rfl⟩
 obtain⟨HC,hHC⟩:∃HC,HC=AS H:=⟨_,rfl⟩
 have hKs:K.size=32:=by rw[hK,AU,hk]
 have hHs:HC.size=32:=by rw[hHC,AU,hHl]
 have hH1:=BO H;rw[←hHC] at hH1 hvl hleaf;rw[←hK] at hvl hleaf ⊢;obtain⟨Z,hZ⟩:∃Z,Z=AS (List.replicate 32 0):=⟨_,rfl⟩
 have hzh:=JQ;rw[←hZ] at hzh;have hZs:Z.size=32:=by rw[hZ];rfl
 obtain⟨i0,hi,hz0,hz1,hz2⟩:=Mz;have hbl:¬((1024:Int)<(bs.length:Int)):=by omega
 have hbl2:(bs.length:Int)≤1024:=by omega
 obtain⟨a0,G0,h1,_⟩:=id h;have LS:=Lib.hid hls;have VL:=Lib.hid hvl;have LF:=Lib.hid hleaf;have DD:=(hIq hDl hHl)
 have KK:=(hIq hK (aIq hKs hk))
 have HH:=(hIq hHC (aIq hHs hH1))
 have ZZ:=(hIq hzh hZs)
 have HI:=(hIq hi (aIq hz0 (aIq hz1 hz2)))
 have HB:=(hIq hb (aIq hv hlen))
 have HA:=Lib.hid h;have HR:=Lib.hid (AQ h1 (.cells K 47));clear hls hvl hleaf hD hH hDl hHl hK hKs hHC hHs hH1 hZ hzh hZs hi hz0 hz1 hz2 hb hv hlen h h1 hk;go_enter Tryz.func127,Tryz.ntmps127;go_wp2_with fail;refine(An HR.out).mono ?_;rintro e w1 ⟨rfl,rfl⟩;go_wp2_with fail;refine VL.out.mono ?_;rintro e w2 ⟨rfl,hc2⟩;have hk2:=hc2.row (heap_alloc_new w (.cells K 47)) id;have hw2:=((Ch.refl (fun _=>False) w).alloc (.cells K 47)).trans hc2 (fun _=>fEq);have hlt2:=Ad hk2;have K2:=Lib.hid hk2;have W2:=Lib.hid hw2;clear hc2 hk2 hw2
 go_wp2_with (first
  | ((with_reducible show zOq (.alloc 35));refine AO rfl 35 rfl (.agg Z) ZZ.out.1 ?_;dsimp only[Value.cells];try simp only[World.size_alloc])
  | ((with_reducible show zOq (.store 35 _ _));refine AI rfl 35 _ _ rfl w2.heap.size 0 HC rfl rfl (heap_alloc_new _ _) (by rw[C7,HH.out.2.1]) (by rw[HH.out.2.1,ZZ.out.2];omega) HH.out.2.2 HC (by rw[AT _ _ (by rw[Array.length_toList,Array.length_toList,HH.out.2.1,ZZ.out.2])]) ?_)
  | (at_builtin;refine DK rfl _ _ 29 rfl 5 i0 Tryz.underlying29 HI.out.1 HI.out.2.1 HI.out.2.2.1 HI.out.2.2.2 rfl _ rfl bs (HB.out.1.Ae ((W2.out.alloc _).setRow (.inr W2.out.size) _) (fun _ _ h=>h)) (by have:=HB.out.2.2;omega) ?_;intro v' w4 hb4 hk4 hc4;have HB4:=(hIq hb4 (aIq hk4 hc4));clear hb4 hk4 hc4))
 have hws:=W2.out.size;have hw4:AN w w4:=((W2.out.alloc _).setRow (.inr W2.out.size) _).trans HB4.out.2.2 (fun _=>fEq);have hkr:w4.heap[w.heap.size]?=some (.cells K 47 (0,0)):=HB4.out.2.2.row (row_setRow (AQ K2.out _) (by omega) _) id;have hhr:w4.heap[w2.heap.size]?=some (.cells HC 35 (0,0)):=HB4.out.2.2.row (AK (heap_alloc_new _ _) _) id
 have hown:∀k,v'.ownBlock=some k→¬F k∧k<w4.heap.size:=fun k hk=>by
  obtain⟨q1,q2⟩:=HB4.out.2.1 k hk;refine⟨fun hf=>?_,q2⟩;obtain⟨_,_,_,_,_,_,_,h6⟩:=HA.out;have:=h6 k hf;simp at q1;omega
 obtain⟨av,cv,hv',_,_⟩:=HB4.out.1.form;subst hv';have hX:=Nd.UT (b:=bs) DD.out.1 KK.out.2.2 DD.out.2 HB.out.2.2 (v:=.slice av bs.length cv) ⟨_,_,_,rfl⟩;have hbt:=Nd.Om D key H bs (.slice av bs.length cv) DD.out.1 KK.out.2.2 DD.out.2 HB.out.2.2 ⟨_,_,_,rfl⟩;rw[←KK.out.1, ←HH.out.1] at hbt;have hbd:=Nd.GM D DD.out.1;obtain⟨DC,hDC⟩:∃DC,DC=AS D:=⟨_,rfl⟩
 have hlf:=LF.out;rw[←hDC] at hbt hbd hlf;obtain⟨NC,hNC⟩:∃NC,NC=(Nd.leaf D key H bs (.slice av bs.length cv)).cells:=⟨_,rfl⟩
 rw[←hNC] at hbt;obtain⟨a,G,h1,h2,h3,h4,h5,h6⟩:=HA.out.adds hw4;have hsw:s<w.heap.size:=by obtain⟨_,_,_,_,_,q4,_,q6⟩:=HA.out;exact q6 s q4
 have hFw:∀k,F k→k<w.heap.size:=by obtain⟨_,_,_,_,_,_,_,q6⟩:=HA.out;exact q6
 have RS:=(hIq hkr (aIq hhr h1))
 have XX:=(hIq hX (aIq hNC hown))
 have BT:=Lib.hid hbt;have BD:=Lib.hid hbd;have LF2:=Lib.hid hlf;have W4:=Lib.hid hw4;have FW:=(hIq hFw h5)
 clear hX hbt hbd hlf hDC hNC hkr hhr h1 h2 h3 h4 h5 h6 hw4 hown hFw LF;refine AP (fun w0=>w0.heap[w.heap.size]?=some (.cells K 47 (0,0))∧w0.heap[w2.heap.size]?=some (.cells HC 35 (0,0))∧w0.heap[s]?=some (.cells #[.pointer (some ⟨a,0,none⟩)] 174 (0,0))) 15 [(0,false),(1,false),(2,false),(3,false),(4,false),(5,false),(8,false),(9,false),(10,false),(6,true),(7,false),(11,false),(12,true),(13,false),(14,false)] (by kernel_rfl) (by kernel_rfl) ?_ ?_
 · exact RS.out
 iterate 3 refine plan_look rfl rfl (fun w0 hS=>(by go_simp;try rfl)) ?_
 refine plan_look rfl rfl (fun w0 hS=>(by have c:=AH hS.2.2 (i:=0) rfl;clear hS;go_simp;try rfl)) ?_;simp only[Act.put,nAq,nBq,nCq];refine Aa (cur:=K) (t:=47) (fr:=(0,0)) rfl rfl 47 (.tmp 4) rfl w.heap.size 0 32 rfl (fun w0 hS=>hS.1) Tryz.underlying47 rfl Ab (by rw[KK.out.2.1];omega) K (by simp[←KK.out.2.1]) ?_;simp only[Act.put,nAq,nBq,nCq];refine Aa (cur:=HC) (t:=35) (fr:=(0,0)) rfl rfl 35 (.tmp 8) rfl w2.heap.size 0 32 rfl (fun w0 hS=>hS.2.1) Tryz.underlying35 rfl C7 (by rw[HH.out.2.1];omega) HC (by simp[←HH.out.2.1]) ?_;simp only[Act.put,nAq,nBq,nCq];refine Aa (cur:=K) (t:=47) (fr:=(0,0)) rfl rfl 47 (.tmp 4) rfl w.heap.size 0 32 rfl (fun w0 hS=>hS.1) Tryz.underlying47 rfl Ab (by rw[KK.out.2.1];omega) K (by simp[←KK.out.2.1]) ?_;simp only[Act.put,nAq,nBq,nCq]
 iterate 1 refine plan_look rfl rfl (fun w0 hS=>(by go_simp;try rfl)) ?_
 simp only[Act.put,nAq,nBq,nCq];refine Aa (cur:=HC) (t:=35) (fr:=(0,0)) rfl rfl 35 (.tmp 8) rfl w2.heap.size 0 32 rfl (fun w0 hS=>hS.2.1) Tryz.underlying35 rfl C7 (by rw[HH.out.2.1];omega) HC (by simp[←HH.out.2.1]) ?_;simp only[Act.put,nAq,nBq,nCq];refine AW rfl ?_;go_wp2_with fail;refine(LF2.out _).mono ?_;rintro e w5 ⟨rfl,hc5⟩;dsimp only;go_step;refine wpList_nil ?_;change _∧_;have hS5:=aIq (hc5.row RS.out.1 id) (aIq (hc5.row RS.out.2.1 id) (hc5.row RS.out.2.2 id));refine⟨hS5,?_⟩;refine FV rfl rfl 166 _ rfl [(0,.agg DC)] rfl _ BD.out ?_;simp only[Act.put,nAq,nBq,nCq];refine FV rfl rfl 168 _ rfl [(0,.agg DC),(1,.int .u8 1),(2,.int .i64 (-1)),(3,.agg K),(4,.slice av bs.length cv),(5,.agg HC),(8,.int .i64 1),(9,.int .i64 1)] rfl _ BT.out ?_;simp only[Act.put,nAq,nBq,nCq];refine AW rfl ?_;have hw5:AN w w5:=W4.out.drew.trans hc5 (fun _=>fEq);have hbx:=HB4.out.1.Ae ((Ch.refl (fun _=>False) w4).drew.trans hc5 (fun _=>fEq)) (fun _ _ h=>h);have hs45:=hc5.size;obtain⟨a',G',g1,g2,g3,g4⟩:=Lg (HA.out.adds hw5) XX.out.1 hbx (fun k hk=>⟨(XX.out.2.2 k hk).1,Nat.lt_of_lt_of_le (XX.out.2.2 k hk).2 hs45⟩)
 have haa:a'=a:=by
  have h4:=g1.symm.trans hS5.2.2;simp only[Option.some.injEq,Obj.cells.injEq,Value.pointer.injEq,Addr.mk.injEq,Array.mk.injEq,List.cons.injEq,and_true] at h4;simpa using h4
 subst haa;have htk:=SlabN.PW g2 (Nd.leaf D key H bs (.slice av bs.length cv)).enc (Nd.OR XX.out.1);rw[AG.map_take] at htk;rw[show(Nd.leaf D key H bs (.slice av bs.length cv)).enc=.agg NC by rw[XX.out.2.1];rfl] at htk;have TK:=Lib.hid htk;have G4:=(hIq g4 g3)
 have S5:=Lib.hid hS5;have W5:=Lib.hid hw5;clear htk g1 g2 g3 g4 hS5 hw5 hbx hc5 hs45;go_wp2_with fail;refine TK.out.mono ?_;rintro e w6 ⟨rfl,hm6⟩;dsimp only;go_step;refine wpList_nil ?_;change _∧_;have hws5:=W5.out.size;obtain⟨G6,p1,p2,p3⟩:=id hm6;refine⟨⟨p2.row S5.out.1 (fun hg=>by have:=FW.out.1 _ (G4.out.2 _ hg).1;omega),p2.row S5.out.2.1 (fun hg=>by have:=FW.out.1 _ (G4.out.2 _ hg).1;omega),p2.row S5.out.2.2 (fun hg=>(G4.out.2 _ hg).2.1 rfl)⟩,?_⟩;have M6:=Lib.hid hm6;clear hm6 p1 p2 p3
 iterate 2 refine plan_look rfl rfl (fun w0 hS=>(by go_simp;try rfl)) ?_
 refine AZ ?_;simp only[List.drop_succ_cons,List.drop_zero];go_wp2;refine NoPanic.normal ?_;go_wp2;go_ret2;refine⟨.slice av bs.length cv,?_,?_⟩
 · rw[LS.out]
   rfl
 rw[LS.out];refine BF.from W5.out (G4.out.1 _ M6.out) (fun k hk=>?_);rcases hk with hk|hk
 · exact .inl hk
 refine .inr ?_;obtain⟨q1,q2⟩:=HB4.out.2.1 k hk;simp at q1;omega
theorem MU {w:World} {s:Nat} {F:Nat→Prop} {σ:AG Nd} (h:At w s F σ) (key:List UInt8) (hk:key.length=32) {vv:Value} {bs:List UInt8} (hb:Bytes w vv bs) (hv:bs ≠ []→∀k,vv.ownBlock=some k→k<w.heap.size) :
 Calls Tryz.prog 127 #[.pointer (some ⟨s,0,none⟩),.agg (AS key),vv] w fun e w'=>∃v,e=.returned (.tuple #[.int .i64 (As σ key bs v).1,.int .i64 (As σ key bs v).2.1])∧BF w w' s F (As σ key bs v).2.2:=by
 by_cases hl:1024<bs.length
 · obtain⟨ao,cap,rfl,_,_⟩:=hb.form
   refine(QW h (AS key) hl).mono fun e w' ⟨he,ha⟩=>⟨.slice none 0 0,?_,?_⟩
   · rw[he];unfold As;rw[if_pos hl]
   unfold As;rw[if_pos hl];exact BF.same h ha
 exact RP h key hk hb hv (by omega)
def JM (n:Nd) (d:Int):Bool:=decide (n.kind=2)&&decide (n.depth≠d+1)
def CO (n:Nd) (d b:Int):Bool:=if JM n d then false else decide (bit n.key d=b)
theorem VD {n:Nd} (hn:n.Ok) (d b:Int) (hd0:0≤d) (hd1:d≤255) (hk:n.kind=2) (hx:n.depth≠d+1) (w:World) :
 Calls Tryz.prog 276 #[n.enc,.int .i64 d,.int .i64 b] w fun e w'=>e=.returned (.bool false)∧AN w w':=by
 have k0:n.cells[32]?=some (.int .u8 2):=by rw[Nd.Ar hn,hk];rfl
 have k1:n.cells[33]?=some (.int .i64 n.depth):=Nd.IC hn;have hw:IntKind.i64.wrap (d+1)=d+1:=IntWalk.i64_in _ (by omega);obtain⟨N,hN⟩:∃N,N=n.cells:=⟨_,rfl⟩
 unfold Nd.enc;rw[←hN] at k0 k1 ⊢;have c0:=AH (heap_alloc_new w (.cells N 168)) k0;have c1:=AH (heap_alloc_new w (.cells N 168)) k1;clear k0 k1 hN hk hn;generalize n.depth=dd at *;have hx':decide (dd=d+1)=false:=by simpa using hx
 go_enter Tryz.func276,Tryz.ntmps276;go_wp2;go_ret;exact⟨rfl,(Ch.refl _ _).alloc _⟩
theorem U4 {n:Nd} (hn:n.Ok) (d b:Int) (hk:n.kind≠2) (w:World) :
 Calls Tryz.prog 276 #[n.enc,.int .i64 d,.int .i64 b] w fun e w'=>e=.returned (.bool (decide (bit n.key d=b)))∧AN w w':=by
 have k0:n.cells[32]?=some (.int .u8 (n.kind:Nat)):=Nd.Ar hn;have hB:=Iy n.key hn.key d;have hx:=Nd.Be hn;have hNs:=Nd.AY hn;obtain⟨N,hN⟩:∃N,N=n.cells:=⟨_,rfl⟩
 obtain⟨K,hK⟩:∃K,K=AS n.key:=⟨_,rfl⟩
 unfold Nd.enc;rw[←hN] at k0 hx hNs ⊢;rw[←hK] at hx hB;have hr:=heap_alloc_new w (.cells N 168);have c0:=AH hr k0;have hkk:(((n.kind:Nat):Int)=2)=False:=by simp;omega
 have HB:=Lib.hid hB;have HX:=Lib.hid hx;have HN:=Lib.hid hNs;have HR:=Lib.hid hr;clear hB hx hNs hN hK k0 hr hk hn;generalize hkd:((n.kind:Nat):Int)=kd at *;clear hkd;generalize bit n.key d=bb at *;go_enter Tryz.func276,Tryz.ntmps276
 go_wp2_with (first
  | ((with_reducible show zOq (.load 47 _));refine AJ rfl 47 _ rfl w.heap.size 34 rfl HR.out Tryz.underlying47 rfl Ab (by rw[HN.out];omega) K HX.out ?_))
 refine(HB.out _).mono ?_;rintro e w1 ⟨rfl,hc1⟩;have C1:=Lib.hid hc1;clear hc1;go_wp2;go_ret;exact⟨rfl,((Ch.refl (fun _=>False) w).alloc _).trans C1.out (fun _=>fEq)⟩
theorem Tl {n:Nd} (hn:n.Ok) (d b:Int) (hd0:0≤d) (hd1:d≤255) (hk:n.kind=2) (hx:n.depth=d+1) (w:World) :
 Calls Tryz.prog 276 #[n.enc,.int .i64 d,.int .i64 b] w fun e w'=>e=.returned (.bool (decide (bit n.key d=b)))∧AN w w':=by
 have k0:n.cells[32]?=some (.int .u8 2):=by rw[Nd.Ar hn,hk];rfl
 have k1:n.cells[33]?=some (.int .i64 (d+1)):=by rw[←hx];exact Nd.IC hn
 have hw:IntKind.i64.wrap (d+1)=d+1:=IntWalk.i64_in _ (by omega);have hB:=Iy n.key hn.key d;have hx:=Nd.Be hn;have hNs:=Nd.AY hn;obtain⟨N,hN⟩:∃N,N=n.cells:=⟨_,rfl⟩
 obtain⟨K,hK⟩:∃K,K=AS n.key:=⟨_,rfl⟩
 unfold Nd.enc;rw[←hN] at k0 k1 hx hNs ⊢;rw[←hK] at hx hB;have hr:=heap_alloc_new w (.cells N 168);have c0:=AH hr k0;have c1:=AH hr k1;have HB:=Lib.hid hB;have HX:=Lib.hid hx;have HN:=Lib.hid hNs;have HR:=Lib.hid hr;clear hB hx hNs hN hK k0 k1 hr hk hn;generalize bit n.key d=bb at *;go_enter Tryz.func276,Tryz.ntmps276
 go_wp2_with (first
  | ((with_reducible show zOq (.load 47 _));refine AJ rfl 47 _ rfl w.heap.size 34 rfl HR.out Tryz.underlying47 rfl Ab (by rw[HN.out];omega) K HX.out ?_))
 refine(HB.out _).mono ?_;rintro e w1 ⟨rfl,hc1⟩;have C1:=Lib.hid hc1;clear hc1;go_wp2;go_ret;exact⟨rfl,((Ch.refl (fun _=>False) w).alloc _).trans C1.out (fun _=>fEq)⟩
theorem C6 {n:Nd} (hn:n.Ok) (d b:Int) (hd0:0≤d) (hd1:d≤255) (w:World) :
 Calls Tryz.prog 276 #[n.enc,.int .i64 d,.int .i64 b] w fun e w'=>e=.returned (.bool (CO n d b))∧AN w w':=by
 by_cases hk:n.kind=2
 · by_cases hx:n.depth=d+1
   · have:CO n d b=decide (bit n.key d=b):=by simp[CO,JM,hk,hx]
     rw[this];exact Tl hn d b hd0 hd1 hk hx w
   have:CO n d b=false:=by simp[CO,JM,hk,hx]
   rw[this];exact VD hn d b hd0 hd1 hk hx w
 have:CO n d b=decide (bit n.key d=b):=by simp[CO,JM,hk]
 rw[this];exact U4 hn d b hk w
def fitsB (d left right:Int) (l r:Nd):Bool :=
 if left=0 then (if right=0 then false else decide (r.kind=2)&&CO r d 1)
 else if right=0 then decide (l.kind=2)&&CO l d 0
 else CO l d 0&&(CO r d 1&&decide (d≤(common l.key r.key:Nat)))
theorem Df (w:World) (L R:Array Value):((w.alloc (.cells L 168)).alloc (.cells R 168)).heap[w.heap.size]?=some (.cells L 168 (0,0)):=AQ (heap_alloc_new _ _) _
theorem Cx (w:World) (L R:Array Value):((w.alloc (.cells L 168)).alloc (.cells R 168)).heap[w.heap.size+1]?=some (.cells R 168 (0,0)):=by
 have:=heap_alloc_new (w.alloc (.cells L 168)) (.cells R 168);simpa using this
theorem Bw {P:Program} {w:World} {o:Oper} {a:Act} {K:Act→World→Prop} {Q:Exit→Act→World→Prop} (ty:TypeId) (x:Operand) (ho:o.op=.load ty x)
 (g off:Nat) (hx:a.eval x=.pointer (some ⟨g,off,none⟩)) {t:TypeId} {cur:Array Value} {fr:Nat×Nat} {n:Nat} {d:TypeDesc} (hg:w.heap[g]?=some (.cells cur t fr)) (hu:P.underlying ty=some d)
 (hd:d.isRow=true) (hi:(P.info? ty).map (·.size)=some n) (hfit:off+n≤cur.size) (cs:Array Value) (hv:cur.extract off (off+n)=cs)
 (h:K (a.put o.dst (.agg cs)) w):Oper.wp P o a w K Q:=by
 unfold Oper.wp execOp;simp only[ho,hx,Instr.loadAt,Instr.sureAddr,Sem.run_bind,Sem.run_pure,Result.andThen_ok,BU w hg hu hd hi hfit,hv];exact h
theorem Bg {P:Program} {ops:Array Oper} {w:World} {rest:List Oper} {o:Oper} {a:Act} {Q:Exit→Act→World→Prop} (hw:Region.wanted o (yielded ops a.tmps)=true) (ty:TypeId) (x:Operand) (ho:o.op=.load ty x)
 (g off:Nat) (hx:a.eval x=.pointer (some ⟨g,off,none⟩)) {t:TypeId} {cur:Array Value} {fr:Nat×Nat} {n:Nat} {d:TypeDesc} (hg:w.heap[g]?=some (.cells cur t fr)) (hu:P.underlying ty=some d)
 (hd:d.isRow=true) (hi:(P.info? ty).map (·.size)=some n) (hfit:off+n≤cur.size) (cs:Array Value) (hv:cur.extract off (off+n)=cs)
 (h:wpList P ops Q rest (a.put o.dst (.agg cs)) w):wpList P ops Q (o::rest) a w :=
 wpList_step fun K hK=>by
  rw[if_pos hw];exact Bw ty x ho g off hx hg hu hd hi hfit cs hv (hK _ _ h)
theorem D3 (w:World) (x y:Obj):AN w ((w.alloc x).alloc y):=((Ch.refl _ _).alloc _).alloc _
end Go.Proofs.YtngbdbpofifimaaGreat.Store
