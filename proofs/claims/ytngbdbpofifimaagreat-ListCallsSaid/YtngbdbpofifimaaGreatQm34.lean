/- Laws of the layers below. -/
import Derived.Test.YtngbdbpofifimaaGreatQm33
set_option maxHeartbeats 3200000
set_option maxRecDepth 100000
set_option linter.unusedVariables false
namespace Go.Proofs.YtngbdbpofifimaaGreat.Store
open Go.RowKit Go.Proofs.YtngbdbpofifimaaGreat.ShaW Go.Proofs.YtngbdbpofifimaaGreat.Path
section
variable {w0 w w' : World} {s b : Nat} {σ : AG Nd} {F G : Nat→Prop}
theorem QH (h:At w s F σ) (root:Int) (K:Array Value) (ao:Option Addr) (len cap:Nat) (hl:1024<len) :
 Calls Tryz.prog 227 #[.pointer (some ⟨s,0,none⟩),.int .i64 root,.agg K,.slice ao len cap] w fun e w'=>e=.returned (.tuple #[.int .i64 0,.int .i64 4])∧AN w w':=by
 have hr:=DU (h.adds ((Ch.refl (fun _=>False) w).alloc (.cells K 47)));have hp:=D2 h;have HR:=Lib.hid hr;clear hr h;go_enter Tryz.func227,Tryz.ntmps227;go_wp2_with fail;refine HR.out.mono ?_;rintro e w1 ⟨rfl,rfl⟩;go_wp2;go_ret2;exact⟨rfl,(Ch.refl _ _).alloc _⟩
theorem Q0 (h:At w s F σ) (root:Int) (K:Array Value) (ao:Option Addr) (len cap:Nat) (hl:len≤1024) (hh:Az σ root≠0) :
 Calls Tryz.prog 227 #[.pointer (some ⟨s,0,none⟩),.int .i64 root,.agg K,.slice ao len cap] w fun e w'=>e=.returned (.tuple #[.int .i64 0,.int .i64 (Az σ root)])∧AN w w':=by
 have a0:AN w (w.alloc (.cells K 47)):=(Ch.refl (fun _=>False) w).alloc _;have hr:=DU (h.adds a0);have ha:=Dn (h.adds a0) root;have hp:=D2 h;obtain⟨er,her⟩:∃x,x=Az σ root:=⟨_,rfl⟩
 rw[←her] at ha hh ⊢;have HR:=Lib.hid hr;have HA:=Lib.hid ha;have A0:=Lib.hid a0;clear hr h ha her a0;go_enter Tryz.func227,Tryz.ntmps227;go_wp2_with fail;refine HR.out.mono ?_;rintro e w1 ⟨rfl,rfl⟩;go_wp2_with fail;refine HA.out.mono ?_;rintro e w1 ⟨rfl,a1⟩;go_wp2;go_ret2;exact⟨rfl,A0.out.trans a1 (fun _=>fEq)⟩
theorem PE (h:ROw w0 w b σ G) (root:Int) (K:Array Value) (ao:Option Addr) (len cap:Nat) (hl:1024<len) :
 Calls Tryz.prog 228 #[.pointer (some ⟨b,0,none⟩),.int .i64 root,.agg K,.slice ao len cap] w fun e w'=>e=.returned (.tuple #[.int .i64 0,.int .i64 4])∧AN w w':=by
 have a0:AN w (w.alloc (.cells K 47)):=(Ch.refl (fun _=>False) w).alloc _;have HW:=Lib.hid (JE (h.adds a0) root ao len cap hl);have A0:=Lib.hid a0;clear h a0 hl;go_enter Tryz.func228,Tryz.ntmps228;go_wp2_with fail;refine HW.out.mono ?_;rintro e w1 ⟨rfl,a1⟩;go_wp2;go_ret2;exact⟨rfl,A0.out.trans a1 (fun _=>fEq)⟩
theorem Ox (h:ROw w0 w b σ G) (GG:Good σ) (root:Int) (K:Array Value) (ao:Option Addr) (len cap:Nat) (hl:len≤1024) (hh:Az σ root≠0) :
 Calls Tryz.prog 228 #[.pointer (some ⟨b,0,none⟩),.int .i64 root,.agg K,.slice ao len cap] w fun e w'=>e=.returned (.tuple #[.int .i64 0,.int .i64 (Az σ root)])∧AN w w':=by
 have a0:AN w (w.alloc (.cells K 47)):=(Ch.refl (fun _=>False) w).alloc _;have hw:=DO (h.adds a0) GG root ao len cap hl;obtain⟨er,her⟩:∃x,x=Az σ root:=⟨_,rfl⟩
 rw[←her] at hw hh ⊢;have hn:(er != 0)=true:=by simpa using hh
 have HW:=Lib.hid hw;have A0:=Lib.hid a0;clear h a0 hl hw her;go_enter Tryz.func228,Tryz.ntmps228;go_wp2_with fail;refine HW.out.mono ?_;rintro e w1 ⟨rfl,a1⟩;go_wp2;go_ret2;exact⟨rfl,A0.out.trans a1 (fun _=>fEq)⟩
theorem R3 (h:ROw w0 w b σ G) (GG:Good σ) (root:Int) (key:List UInt8) (hk:key.length=32) {vv:Value} {bs:List UInt8} (hb:Bytes w vv bs) (hl:bs.length≤1024) (hh:Az σ root=0)
 {l:List Int} {e1:Int} (ho:On (sk σ) key root 0 l e1) :
 Calls Tryz.prog 228 #[.pointer (some ⟨b,0,none⟩),.int .i64 root,.agg (AS key),vv] w fun e w'=>e=.returned (.tuple #[.int .i64 (if Dh σ key bs e1=true then 0 else (Ci σ key l e1:Nat)),.int .i64 0])∧AN w w':=by
 obtain⟨ao,cap,hvv,_⟩:=hb.form;obtain⟨K,hK⟩:∃K,K=AS key:=⟨_,rfl⟩
 have hKs:K.size=32:=by rw[hK,AU,hk]
 have a0:AN w (w.alloc (.cells K 47)):=(Ch.refl (fun _=>False) w).alloc _;have hw:=DO (h.adds a0) GG root ao bs.length cap hl;have hwy:=fun w1 (a:AN w w1)=>OV (h.adds a) GG root key hk ho
 have hth:=fun w1 (a:AN w w1)=>J3 (h.adds a) GG e1 key hk (hb.Ae a (fun _ _ h=>h))
 have hkd:=fun w1 (a:AN w w1)=>(h.adds a).kind GG e1
 have hky:=fun w1 (a:AN w w1) (hk1:(nd σ e1).kind=1)=>(h.adds a).MB GG hk1
 have hll:l.length≤256:=by have:=ho.len GG.fit (by omega);omega
 have hoc:=fun(hot:B7 σ key e1=true)=>ES GG hk ho hot
 have hkl0:(nd σ e1).kind=1→(nd σ e1).key.length=32:=fun hk1=>by
  cases hx:σ.get? e1 with
  | none=>rw[B9 hx] at hk1;exact absurd (show(0:Nat)=1 from hk1) (by decide)
  | some x=>rw[Ap hx];exact(GG.fit.all _ _ (Bl hx)).key
 rw[hh] at hw;obtain⟨sm,hsm⟩:∃x,x=Dh σ key bs e1:=⟨_,rfl⟩
 rw[←hsm, ←hK] at hth;rw[←hsm];rw[←hK] at hwy;rw[←hK];subst hvv;have HW:=Lib.hid hw;have HY:=Lib.hid hwy;have HT:=Lib.hid hth;have HK:=Lib.hid hKs;have HKK:=Lib.hid hK;have A0:=Lib.hid a0;clear h a0 hl hw hh hwy hth hK hKs ho hb hsm GG;go_enter Tryz.func228,Tryz.ntmps228;go_wp2_with fail;refine HW.out.mono ?_;rintro e w1 ⟨rfl,a1⟩;have k1:=a1.row (heap_alloc_new w (.cells K 47)) id;have A2:=(hIq (A0.out.trans a1 (fun _=>fEq)) k1)
 clear a1 k1
 go_wp2_with (first
  | fail
  | ((with_reducible show zOq (.load 47 _));refine AJ rfl 47 _ rfl w.heap.size 0 rfl A2.out.2 Tryz.underlying47 rfl Ab (by rw[HK.out];omega) K (by simp[←HK.out]) ?_))
 refine(HY.out _ A2.out.1).mono ?_;rintro e w3 ⟨v,rfl,o3,a3⟩;obtain⟨ao3,cap3,rfl⟩:=Am o3;have A3:=(hIq (A2.out.1.trans a3 (fun _=>fEq)) (a3.row A2.out.2 id))
 clear a3 o3
 go_wp2_with (first
  | fail
  | ((with_reducible show zOq (.load 47 _));refine AJ rfl 47 _ rfl w.heap.size 0 rfl A3.out.2 Tryz.underlying47 rfl Ab (by rw[HK.out];omega) K (by simp[←HK.out]) ?_))
 refine(HT.out _ A3.out.1).mono ?_;rintro e w4 ⟨rfl,a4⟩;have A4:=(hIq (A3.out.1.trans a4 (fun _=>fEq)) (a4.row A3.out.2 id))
 clear a4;cases sm with
 | true =>
  go_wp2;go_ret2;exact⟨rfl,A4.out.1⟩
 | false =>
  have hw1:IntKind.i64.wrap (1+(l.length:Int))=1+(l.length:Int):=IntWalk.i64_in _ (by omega);by_cases hk1:(nd σ e1).kind=1
  · have hkl:=hkl0 hk1
    have hneq:=Hy 47 Tryz.underlying47 (nd σ e1).key key hkl hk;have hcm:=fun w1=>G3 key (nd σ e1).key hk hkl w1
    have hky:=fun w1 a=>hky w1 a hk1
    rw[hk1] at hkd;obtain⟨K2,hK2⟩:∃K2,K2=AS (nd σ e1).key:=⟨_,rfl⟩
    rw[←hK2, ←HKK.out] at hneq hcm;rw[←hK2] at hky;have HKD:=Lib.hid hkd;have HKY:=Lib.hid hky;have hot:B7 σ key e1 = !decide ((nd σ e1).key=key):=by unfold B7;rw[hk1];simp
    have e1':(((1:Nat):Int) == 1)=true:=rfl;obtain⟨ek,hek⟩:∃x,x=decide ((nd σ e1).key=key):=⟨_,rfl⟩
    rw[←hek] at hneq hot;have HQ:=Lib.hid hneq;cases ek with
    | true =>
     have HCO:=Lib.hid (Hh (l:=l) hot);clear hot hek hneq hcm hky hkd hkl hk1 hK2 hoc hkl0;go_wp2;refine AP (fun wz=>wz.heap[w.heap.size]?=some (.cells K 47 (0,0))∧AN w wz) 11 [(0,false),(1,false),(2,true),(3,false),(4,false),(5,false),(6,false),(8,false),(7,true),(9,false),(10,false)] (by kernel_rfl) (by kernel_rfl) ?_ ?_
     · exact⟨AM A4.out.2,A4.out.1.drew⟩
     iterate 2
      iterate 1 refine plan_look rfl rfl (fun w0 hS=>(by go_simp;try rfl)) ?_
      simp only[Act.put,nAq,nBq,nCq]
     refine AW rfl ?_;go_wp2_with fail;refine(HKD.out _ A4.out.1.drew).mono ?_;rintro e w6 ⟨rfl,a6⟩;have H6:=(hIq (a6.row (AM A4.out.2) id) (A4.out.1.drew.trans a6 (fun _=>fEq)))
     clear a6;dsimp only;go_step;refine wpList_nil ?_;change _∧_;refine⟨H6.out,?_⟩
     iterate 4
      refine plan_look rfl rfl (fun w0 hS=>(by clear hS;go_simp;try rfl)) ?_;simp only[Act.put,nAq,nBq,nCq]
     refine Ay (cur:=K) (t:=47) (fr:=(0,0)) rfl rfl 47 (.tmp 6) rfl w.heap.size 0 32 rfl (fun w0 hS=>hS.1) Tryz.underlying47 rfl Ab (by rw[HK.out];omega) K (by simp[←HK.out]) ?_;simp only[Act.put,nAq,nBq,nCq];refine AW rfl ?_;go_wp2_with fail;refine(HKY.out _ H6.out.2).mono ?_;rintro e w7 ⟨rfl,a7⟩;have H7:=(hIq (a7.row H6.out.1 id) (H6.out.2.trans a7 (fun _=>fEq)))
     clear a7 H6;dsimp only;go_step;refine wpList_nil ?_;change _∧_;refine⟨H7.out,?_⟩;refine plan_look (v:=.bool false) rfl rfl (fun w0 hS=>(by have hq:=HQ.out w0;rw[run_neq_struct] at hq;clear hS;go_simp)) ?_;simp only[Act.put,nAq,nBq,nCq];refine plan_look (v:=.bool false) rfl rfl (fun w0 hS=>(by clear hS;go_simp;try rfl)) ?_;simp only[Act.put,nAq,nBq,nCq];refine AZ ?_;simp only[List.drop_succ_cons,List.drop_zero];go_wp2;refine NoPanic.normal ?_;go_wp2;go_ret2;refine⟨?_,H7.out.2⟩;rw[HCO.out]
     push_cast
     rw[Int.add_comm];rfl
    | false =>
     obtain⟨hcl,hc256,_⟩:=hoc hot;have hco:=JJ hot hcl;obtain⟨c,hc⟩:∃x,x=common key (nd σ e1).key:=⟨_,rfl⟩
     rw[←hc] at hcl hc256 hcm hco;have HC:=Lib.hid hcm;have HCO:=Lib.hid hco;obtain⟨n,hn⟩:∃n,n=l.length:=⟨_,rfl⟩
     rw[←hn] at hw1 hll hcl ⊢;have hw2:IntKind.i64.wrap (1+(n:Int)+(c:Int))=1+(n:Int)+(c:Int):=IntWalk.i64_in _ (by omega);have hw3:IntKind.i64.wrap (1+(n:Int)+(c:Int)-(n:Int))=(c:Int)+1:=by rw[show 1+(n:Int)+(c:Int)-(n:Int)=(c:Int)+1 by omega];exact IntWalk.i64_in _ (by omega)
     have hw4:IntKind.i64.wrap ((c:Int)+1+1)=(c:Int)+2:=by rw[show(c:Int)+1+1=(c:Int)+2 by omega];exact IntWalk.i64_in _ (by omega)
     clear hot hek hneq hcm hky hkd hkl hk1 hK2 hoc hkl0 hco hc hcl hn;go_wp2;refine AP (fun wz=>wz.heap[w.heap.size]?=some (.cells K 47 (0,0))∧AN w wz) 11 [(0,false),(1,false),(2,true),(3,false),(4,false),(5,false),(6,false),(8,false),(7,true),(9,false),(10,false)] (by kernel_rfl) (by kernel_rfl) ?_ ?_
     · exact⟨AM A4.out.2,A4.out.1.drew⟩
     iterate 2
      iterate 1 refine plan_look rfl rfl (fun w0 hS=>(by go_simp;try rfl)) ?_
      simp only[Act.put,nAq,nBq,nCq]
     refine AW rfl ?_;go_wp2_with fail;refine(HKD.out _ A4.out.1.drew).mono ?_;rintro e w6 ⟨rfl,a6⟩;have H6:=(hIq (a6.row (AM A4.out.2) id) (A4.out.1.drew.trans a6 (fun _=>fEq)))
     clear a6;dsimp only;go_step;refine wpList_nil ?_;change _∧_;refine⟨H6.out,?_⟩
     iterate 4
      refine plan_look rfl rfl (fun w0 hS=>(by clear hS;go_simp;try rfl)) ?_;simp only[Act.put,nAq,nBq,nCq]
     refine Ay (cur:=K) (t:=47) (fr:=(0,0)) rfl rfl 47 (.tmp 6) rfl w.heap.size 0 32 rfl (fun w0 hS=>hS.1) Tryz.underlying47 rfl Ab (by rw[HK.out];omega) K (by simp[←HK.out]) ?_;simp only[Act.put,nAq,nBq,nCq];refine AW rfl ?_;go_wp2_with fail;refine(HKY.out _ H6.out.2).mono ?_;rintro e w7 ⟨rfl,a7⟩;have H7:=(hIq (a7.row H6.out.1 id) (H6.out.2.trans a7 (fun _=>fEq)))
     clear a7 H6;dsimp only;go_step;refine wpList_nil ?_;change _∧_;refine⟨H7.out,?_⟩;refine plan_look (v:=.bool true) rfl rfl (fun w0 hS=>(by have hq:=HQ.out w0;rw[run_neq_struct] at hq;clear hS;go_simp)) ?_;simp only[Act.put,nAq,nBq,nCq];refine plan_look (v:=.bool true) rfl rfl (fun w0 hS=>(by clear hS;go_simp;try rfl)) ?_;simp only[Act.put,nAq,nBq,nCq];refine AZ ?_;simp only[List.drop_succ_cons,List.drop_zero];go_wp2;refine NoPanic.normal ?_;go_wp2;refine AP (fun wz=>wz.heap[w.heap.size]?=some (.cells K 47 (0,0))∧AN w wz) 11 [(0,false),(1,false),(2,false),(3,false),(7,false),(8,false),(4,true),(5,true),(6,false),(9,false),(10,false)] (by kernel_rfl) (by kernel_rfl) ?_ ?_
     · exact⟨AM H7.out.1,H7.out.2.drew⟩
     refine plan_look rfl rfl (fun w0 hS=>(by clear hS;go_simp;try rfl)) ?_;simp only[Act.put,nAq,nBq,nCq];refine Aa (cur:=K) (t:=47) (fr:=(0,0)) rfl rfl 47 (.tmp 6) rfl w.heap.size 0 32 rfl (fun w0 hS=>hS.1) Tryz.underlying47 rfl Ab (by rw[HK.out];omega) K (by simp[←HK.out]) ?_;simp only[Act.put,nAq,nBq,nCq]
     iterate 4
      refine plan_look rfl rfl (fun w0 hS=>(by clear hS;go_simp;try rfl)) ?_;simp only[Act.put,nAq,nBq,nCq]
     refine AW rfl ?_;go_wp2_with fail;refine(HKY.out _ H7.out.2.drew).mono ?_;rintro e w8 ⟨rfl,a8⟩;have H8:=(hIq (a8.row (AM H7.out.1) id) (H7.out.2.drew.trans a8 (fun _=>fEq)))
     clear a8;dsimp only;go_step;refine wpList_nil ?_;change _∧_;refine⟨H8.out,?_⟩;refine AW rfl ?_;go_wp2_with fail;refine(HC.out _).mono ?_;rintro e w9 ⟨rfl,a9⟩;have H9:=(hIq (a9.row H8.out.1 id) (H8.out.2.trans a9 (fun _=>fEq)))
     clear a9;dsimp only;go_step;refine wpList_nil ?_;change _∧_;refine⟨H9.out,?_⟩;refine plan_look (v:=.int .i64 (1+(n:Int)+(c:Int))) rfl rfl (fun w0 hS=>(by clear hS;go_simp;try simp[hw2])) ?_;simp only[Act.put,nAq,nBq,nCq];refine plan_look (v:=.int .i64 ((c:Int)+1)) rfl rfl (fun w0 hS=>(by clear hS;go_simp;try simp[hw3])) ?_;simp only[Act.put,nAq,nBq,nCq];refine plan_look (v:=.int .i64 ((c:Int)+2)) rfl rfl (fun w0 hS=>(by clear hS;go_simp;try simp[hw4])) ?_;simp only[Act.put,nAq,nBq,nCq];refine AZ ?_;simp only[List.drop_succ_cons,List.drop_zero];go_wp2;refine NoPanic.normal ?_;go_wp2;go_ret2;refine⟨?_,H9.out.2⟩;rw[HCO.out];rfl
  have hot:B7 σ key e1=false:=by
   unfold B7;rw[decide_eq_false hk1,Bool.false_and]
  have HCO:=Lib.hid (Hh (l:=l) hot);obtain⟨kd,hkd'⟩:∃x,x=(nd σ e1).kind:=⟨_,rfl⟩
  rw[←hkd'] at hkd hk1;have HKD:=Lib.hid hkd;have e1':((kd:Int) == 1)=false:=by simpa using (show ¬(kd:Int)=1 by omega)
  have e2':decide ((kd:Int)=1)=false:=decide_eq_false (by omega);clear hot hkd hk1 hkd' hoc hkl0 hky;go_wp2;refine AP (fun wz=>wz.heap[w.heap.size]?=some (.cells K 47 (0,0))∧AN w wz) 11 [(0,false),(1,false),(2,true),(3,false),(4,false),(5,false),(6,false),(7,false),(8,false),(9,false),(10,false)] (by kernel_rfl) (by kernel_rfl) ?_ ?_
  · exact⟨AM A4.out.2,A4.out.1.drew⟩
  iterate 2
   iterate 1 refine plan_look rfl rfl (fun w0 hS=>(by go_simp;try rfl)) ?_
   simp only[Act.put,nAq,nBq,nCq]
  refine AW rfl ?_;go_wp2_with fail;refine(HKD.out _ A4.out.1.drew).mono ?_;rintro e w6 ⟨rfl,a6⟩;have H6:=(hIq (a6.row (AM A4.out.2) id) (A4.out.1.drew.trans a6 (fun _=>fEq)))
  clear a6;dsimp only;go_step;refine wpList_nil ?_;change _∧_;refine⟨H6.out,?_⟩
  iterate 2
   refine plan_look (v:=.bool false) rfl rfl (fun w0 hS=>(by clear hS;go_simp;try rfl)) ?_;simp only[Act.put,nAq,nBq,nCq]
  iterate 5
   refine BN rfl (by rfl) ?_;simp only[Act.put,nAq,nBq,nCq]
  refine plan_look (v:=.bool false) rfl rfl (fun w0 hS=>(by clear hS;go_simp;try rfl)) ?_;simp only[Act.put,nAq,nBq,nCq];refine AZ ?_;simp only[List.drop_succ_cons,List.drop_zero];go_wp2;refine NoPanic.normal ?_;go_wp2;go_ret2;refine⟨?_,H6.out.2⟩;rw[HCO.out]
  push_cast
  rw[Int.add_comm];rfl
end
section
variable {w0 w : World} {s : Nat} {σ σ' σ0 σ1 : AG Nd} {F G : Nat→Prop} {root r now : Int} {t : Tr} {L L' : Av} {key bs : List UInt8} {n : Nat} {R R' : List (Int×Av)}
structure Step (σ σ':AG Nd) (root r:Int):Prop where
 good:Good σ'
 agree:∀k x,sk σ k=some x→sk σ' k=none∨sk σ' k=some x
 held:∀k,k≠0→Store.held σ' k=Store.held σ k-(if k=root then 1 else 0)+(if k=r then 1 else 0)
theorem Step.refl (h:Good σ) (root:Int):Step σ σ root root:=⟨h,fun _ _ hx=>.inr hx,fun k _=>by split<;>omega⟩
theorem Step.Ae (h:Step σ σ' root r) (hz:sk σ 0=none) {k:Int} {d:Nat} {t:Tr} (hr:Rep (sk σ) k d t) (h0:k=0∨∃y,sk σ' k=some y):Rep (sk σ') k d t:=by
 have back:∀k n,sk σ k=some n→(k=0∨∃m,sk σ' k=some m)→sk σ' k=some n:=fun k n hn hk=>by
  rcases hk with rfl|⟨m,hm⟩
  · rw[hz] at hn;cases hn
  rcases h.agree k n hn with e|e
  · rw[e] at hm;cases hm
  exact e
 have hc:=Sound.closed h.good.sound
 induction hr with
 | nil=>exact .nil
 | leaf hn hk=>exact .leaf (back _ _ hn h0) hk
 | node hn hk hd _ _ ihl ihr =>
  have:=back _ _ hn h0;exact .node this hk hd (ihl (hc _ _ this).1) (ihr (hc _ _ this).2)
theorem JP {k:Int} (h:1≤Store.held σ k):∃x,sk σ k=some x:=by
 obtain⟨x,hx,_⟩:=Bd h;exact⟨_,Bl hx⟩
theorem Gb {k:Int} (h:sk σ k=none) (hs:Sound σ []):Store.held σ k=0:=by
 have hn:=D7 hs k;by_cases e:1≤Store.held σ k
 · obtain⟨x,hx⟩:=JP e
   rw[h] at hx;cases hx
 omega
theorem M0 (hs:Sound σ []) {h:Int} (hh:1≤Store.held σ h) (k:Int):Store.held (Aw σ h).2.2 k=Store.held σ k-(if k=h then 1 else 0):=by
 obtain⟨_,_,_,g3,g4,_,_,_⟩:=Ea hs hh;have hd:=Kl hs hh k;have hn:=D7 hs k;by_cases e:k=h
 · subst e
   rw[if_pos rfl] at hd ⊢;by_cases h2:2≤Store.held σ k
   · exact(g4 h2).2
   rcases hd with e|e<;>omega
 rw[if_neg e] at hd ⊢;by_cases h1:1≤Store.held σ k
 · rw[(g3 k e h1).2];omega
 rcases hd with e|e<;>omega
theorem Jr (G:Good σ) {h:Int} (hh:1≤Store.held σ h):Step σ (Aw σ h).2.2 h 0:=by
 obtain⟨_,_,g2,_⟩:=Ea G.sound hh;refine⟨G.drop h,fun k x hx=>?_,fun k hk=>by rw[M0 G.sound hh,if_neg hk];omega⟩;rcases g2 k with e|e
 · exact .inl e
 exact .inr (e.trans hx)
theorem PutMid.Wv (h:PutMid σ0 σ key now 0 t n) (G:Good σ0) (k:Int):Store.held σ k=Store.held σ0 k+(if k=now then 1 else 0):=by
 have hn:=D7 h.good.sound k;by_cases e:k=now
 · subst e
   rw[if_pos rfl,h.one,Gb h.fresh G.sound];rfl
 rw[if_neg e];cases hx:sk σ0 k with
 | some x=>rw[(h.old k x hx).2];omega
 | none =>
  rw[Gb hx G.sound];by_cases h1:1≤Store.held σ k
  · rcases h.only k h1 with h2|h2
    · exact absurd h2 e
    rw[Gb hx G.sound] at h2;omega
  omega
theorem PutMid.step (h:PutMid σ0 σ key now 0 t n) (G:Good σ0) (hh:root=0∨1≤Store.held σ0 root):Step σ0 (if root≠0 then (Aw σ root).2.2 else σ) root now:=by
 have hh':=h.Wv G;by_cases h0:root=0
 · rw[if_neg (by simpa using h0)]
   exact⟨h.good,fun k x hx=>.inr (h.old k x hx).1,fun k hk=>by rw[hh',h0,if_neg hk];omega⟩
 rw[if_pos h0];have hr:=hh.resolve_left h0;have hr1:1≤Store.held σ root:=by rw[hh'];split<;>omega
 have hd:=Jr h.good hr1;refine⟨hd.good,fun k x hx=>hd.agree k x (h.old k x hx).1,fun k hk=>?_⟩;rw[hd.held k hk,hh',if_neg hk];omega
def roots (R:List (Int×Av)) (k:Int):Nat:=R.countP (fun p=>p.1 == k)
theorem Eh (p:Int×Av) (R:List (Int×Av)) (k:Int):roots (p::R) k=roots R k+(if k=p.1 then 1 else 0):=by
 unfold roots;rw[List.countP_cons];by_cases e:k=p.1
 · simp[e]
 have:¬p.1=k:=fun h=>e h.symm
 simp[e,this]
theorem K9 {p:Int×Av} (h:p∈R):1≤roots R p.1:=List.countP_pos_iff.2 ⟨p,h,by simp⟩
structure CQ (σ:AG Nd) (R:List (Int×Av)):Prop where
 good:Good σ
 held:∀k,k≠0→Store.held σ k=(roots R k:Nat)
 rep:∀p∈R,Rep (sk σ) p.1 0 (tree 256 p.2)
 nodup:∀p∈R,(DT p.2).Nodup
 len:∀p∈R,∀q∈p.2,q.1.length=32
theorem CQ.new (n:Nat) (h1:1≤n) (h2:n≤65536):CQ ⟨n,[],[]⟩ []:=by
 refine⟨Good.new n h1 h2,fun k hk=>?_,fun p hp=>(by cases hp),fun p hp=>(by cases hp),fun p hp=>(by cases hp)⟩;rw[Gb (by unfold sk AG.get?;split<;>simp[Option.filter]) (Good.new n h1 h2).sound];rfl
theorem CQ.perm (h:CQ σ R) (hp:R.Perm R'):CQ σ R' :=
 ⟨h.good,fun k hk=>by rw[h.held k hk];unfold roots;rw[hp.countP_eq],fun p hm=>h.rep p (hp.mem_iff.2 hm),fun p hm=>h.nodup p (hp.mem_iff.2 hm),fun p hm=>h.len p (hp.mem_iff.2 hm)⟩
theorem CQ.there (h:CQ σ R) {p:Int×Av} (hp:p∈R):p.1=0∨1≤Store.held σ p.1:=by
 by_cases e:p.1=0
 · exact .inl e
 right;rw[h.held _ e];have:=K9 hp;omega
theorem CQ.db (h:CQ σ R) {p:Int×Av} (hp:p∈R):Db σ p.1 p.2:=⟨h.good,h.rep p hp,h.nodup p hp,h.len p hp,h.there hp⟩
theorem CQ.step (h:CQ σ ((root,L)::R)) (hs:Step σ σ' root r) (hr:Rep (sk σ') r 0 (tree 256 L')) (hn:(DT L').Nodup) (hl:∀q∈L',q.1.length=32):CQ σ' ((r,L')::R):=by
 have hz:=h.good.fit.zero
 have hh:∀k,k≠0→Store.held σ' k=(roots ((r,L')::R) k:Nat):=fun k hk=>by
  rw[hs.held k hk,h.held k hk,Eh,Eh];simp only
  (repeat' split)<;>omega
 refine⟨hs.good,hh,fun p hp=>?_,fun p hp=>?_,fun p hp=>?_⟩
 · rcases List.mem_cons.1 hp with rfl|hp'
   · exact hr
   refine hs.Ae hz (h.rep p (List.mem_cons_of_mem _ hp')) ?_;by_cases e:p.1=0
   · exact .inl e
   right;refine JP ?_;rw[hh _ e];have:=K9 hp;omega
 · rcases List.mem_cons.1 hp with rfl|hp
   · exact hn
   exact h.nodup p (List.mem_cons_of_mem _ hp)
 rcases List.mem_cons.1 hp with rfl|hp
 · exact hl
 exact h.len p (List.mem_cons_of_mem _ hp)
theorem CQ.less (h:CQ σ ((0,L)::R)):CQ σ R :=
 ⟨h.good,fun k hk=>by rw[h.held k hk,Eh,if_neg hk];rfl,fun p hp=>h.rep p (List.mem_cons_of_mem _ hp),fun p hp=>h.nodup p (List.mem_cons_of_mem _ hp),fun p hp=>h.len p (List.mem_cons_of_mem _ hp)⟩
theorem CQ.zero (h:CQ σ R):CQ σ ((0,[])::R):=by
 refine⟨h.good,fun k hk=>by rw[h.held k hk,Eh,if_neg hk];rfl,fun p hp=>?_,fun p hp=>?_,fun p hp=>?_⟩
 · rcases List.mem_cons.1 hp with rfl|hp
   · exact .nil
   exact h.rep p hp
 · rcases List.mem_cons.1 hp with rfl|hp
   · exact List.nodup_nil
   exact h.nodup p hp
 rcases List.mem_cons.1 hp with rfl|hp
 · exact fun q hq=>by cases hq
 exact h.len p hp
theorem CQ.hold (h:CQ σ ((root,L)::R)) (h0:root≠0) (ht:Store.total σ<1073741824):(Au σ root).1=0∧CQ (Au σ root).2 ((root,L)::(root,L)::R)∧Store.live (Au σ root).2=Store.live σ∧Store.total (Au σ root).2=Store.total σ+1∧(Au σ root).2.room=σ.room:=by
 obtain⟨h1,h2,h3,h4,h5,h6,h7⟩:=Ux (h.db (List.mem_cons_self ..)) h0 ht;have e:sk (Au σ root).2=sk σ:=funext h3;refine⟨h1,⟨h2.good,fun k hk=>?_,fun p hp=>?_,fun p hp=>?_,fun p hp=>?_⟩,h5,h6,h7⟩
 · rw[h4,Eh]
   by_cases e:k=root
   · subst e;rw[if_pos rfl,if_pos rfl,h.held _ hk];omega
   rw[if_neg e,if_neg e,h.held k hk];omega
 · rw[e]
   rcases List.mem_cons.1 hp with rfl|hp
   · exact h.rep _ (List.mem_cons_self ..)
   exact h.rep p hp
 · rcases List.mem_cons.1 hp with rfl|hp
   · exact h.nodup _ (List.mem_cons_self ..)
   exact h.nodup p hp
 rcases List.mem_cons.1 hp with rfl|hp
 · exact h.len _ (List.mem_cons_self ..)
 exact h.len p hp
theorem CQ.drop (h:CQ σ ((root,L)::R)) (h0:root≠0):(Aw σ root).2.1=0∧CQ (Aw σ root).2.2 R∧Store.live (Aw σ root).2.2≤Store.live σ∧Store.total (Aw σ root).2.2≤Store.total σ∧(Aw σ root).2.2.room=σ.room:=by
 have hh:=(h.there (List.mem_cons_self ..)).resolve_left h0;obtain⟨g0,_,_,_,_,g5,g6,g7⟩:=Ea h.good.sound hh;exact⟨g0,(h.step (L' := []) (Jr h.good hh) .nil List.nodup_nil (fun q hq=>by cases hq)).less,g5,g6,g7⟩
theorem R0 (hn:(DT L).Nodup) (hl:∀q∈L,q.1.length=32) (hk:key.length=32):(DT (upd L key bs)).Nodup∧∀p∈upd L key bs,p.1.length=32:=by
 refine⟨List.nodup_cons.2 ⟨fun hm=>?_,hn.sublist (keys_filter L _)⟩,fun p hp=>?_⟩
 · obtain⟨p,hp,e⟩:=List.mem_map.1 hm
   have:=(List.mem_filter.1 hp).2;simp[e] at this
 rcases List.mem_cons.1 hp with e|hp
 · rw[e];exact hk
 exact hl p (List.mem_filter.1 hp).1
structure WroteR (σ σ':AG Nd) (root r:Int) (n m:Nat):Prop where
 step:Step σ σ' root r
 live:Store.live σ'≤Store.live σ+n
 total:Store.total σ'≤Store.total σ+m
 room:σ'.room=σ.room
end
def Bh (σ:AG Nd) (r:Int) (bs:List UInt8):Int:=if 1024<bs.length then 4 else if Az σ r≠0 then Az σ r else if C9 σ 1=false then 9 else 0
def GB (σ:AG Nd) (r:Int) (key bs:List UInt8) (x:Int) (σ':AG Nd):Prop :=
 (Bh σ r bs≠0∧x=0∧σ'=σ)∨(Bh σ r bs=0∧∃l e1,On (sk σ) key r 0 l e1∧((Dh σ key bs e1=true∧x=r∧σ'=σ)∨(Dh σ key bs e1=false∧∃v,x=(Fv σ r key bs v l e1).1∧σ'=(Fv σ r key bs v l e1).2)))
def DF (σ:AG Nd) (r:Int) (bs:List UInt8):Int:=if 1024<bs.length then 4 else Az σ r
def PA (σ:AG Nd) (r:Int) (key bs:List UInt8) (x:Int):Prop :=
 (DF σ r bs≠0∧x=0)∨(DF σ r bs=0∧∃l e1,On (sk σ) key r 0 l e1∧x=if Dh σ key bs e1=true then (0:Int) else ((Ci σ key l e1:Nat):Int))
section
variable {w0 w w' : World} {s b : Nat} {σ σ' : AG Nd} {G : Nat→Prop} {r x : Int} {key bs : List UInt8}
theorem GJ (h:Bh σ r bs=0):bs.length≤1024∧Az σ r=0∧C9 σ 1=true:=by
 unfold Bh at h;by_cases h1:1024<bs.length
 · rw[if_pos h1] at h;exact absurd h (by decide)
 rw[if_neg h1] at h;by_cases h2:Az σ r=0
 · rw[if_neg (by simpa using h2)] at h
   refine⟨by omega,h2,?_⟩;cases h3:C9 σ 1 with
   | true=>rfl
   | false=>rw[if_pos h3] at h;exact absurd h (by decide)
 rw[if_pos h2] at h;exact absurd h h2
theorem Hv (h:DF σ r bs=0):bs.length≤1024∧Az σ r=0:=by
 unfold DF at h;by_cases h1:1024<bs.length
 · rw[if_pos h1] at h;exact absurd h (by decide)
 rw[if_neg h1] at h;exact⟨by omega,h⟩
theorem T9 (h:Ow w0 w s σ G) (GG:Good σ) (r:Int) (hk:key.length=32) {vv:Value} (hb:Bytes w vv bs) (hv:bs ≠ []→∀k,vv.ownBlock=some k→k<w.heap.size) :
 Calls Tryz.prog 60 #[.pointer (some ⟨s,0,none⟩),.int .i64 r,.agg (AS key),vv] w fun e w'=>∃x σ',e=.returned (.tuple #[.int .i64 x,.int .i64 (Bh σ r bs)])∧GB σ r key bs x σ'∧Ow w0 w' s σ' G∧But G w w':=by
 obtain⟨F,hAt⟩:=h.at;by_cases he:Bh σ r bs=0
 · obtain⟨h1,h2,h3⟩:=GJ he
   have hre:=FZ h2;obtain⟨t,l,e1,_,ho,_⟩:=Mc GG key hre;cases hs:Dh σ key bs e1 with
   | true =>
    refine(SN hAt GG r key hk hb h1 h2 hre h3 ho hs).mono fun e w' ⟨he',ha⟩=>⟨r,σ,?_,.inr ⟨he,l,e1,ho,.inl ⟨hs,rfl,rfl⟩⟩,h.adds ha,AN.but ha⟩
    rw[he];exact he'
   | false =>
    refine(Vt h GG r key hk hb hv h1 h2 hre h3 ho hs).mono fun e w' ⟨v,he',ho',hb'⟩=>⟨_,_,?_,.inr ⟨he,l,e1,ho,.inr ⟨hs,v,rfl,rfl⟩⟩,ho',hb'⟩
    rw[he];exact he'
 have key1:∀ {e:Ending} {w':World},e=.returned (.tuple #[.int .i64 0,.int .i64 (Bh σ r bs)])∧AN w w'→∃x σ',e=.returned (.tuple #[.int .i64 x,.int .i64 (Bh σ r bs)])∧GB σ r key bs x σ'∧Ow w0 w' s σ' G∧But G w w':=fun ⟨he',ha⟩ =>
  ⟨0,σ,he',.inl ⟨he,rfl,rfl⟩,h.adds ha,AN.but ha⟩
 by_cases h1:1024<bs.length
 · have e0:Bh σ r bs=4:=if_pos h1
   obtain⟨ao,cap,rfl,_⟩:=hb.form;rw[e0] at key1 ⊢;exact(Th hAt r (AS key) ao bs.length cap h1).mono fun e w' h=>key1 h
 by_cases h2:Az σ r=0
 · have h3:C9 σ 1=false:=by
    cases h3:C9 σ 1 with
    | false=>rfl
    | true=>exact absurd (by unfold Bh;rw[if_neg h1,if_neg (by simpa using h2),if_neg (by rw[h3];simp)]) he
   have e0:Bh σ r bs=9:=by unfold Bh;rw[if_neg h1,if_neg (by simpa using h2),if_pos h3]
   rw[e0] at key1 ⊢;exact(Ti hAt r key hb (by omega) h2 h3).mono fun e w' h=>key1 h
 have e0:Bh σ r bs=Az σ r:=by unfold Bh;rw[if_neg h1,if_pos h2]
 rw[e0] at key1 ⊢;exact(SF hAt r key hb (by omega) h2).mono fun e w' h=>key1 h
theorem Sk (h:ROw w0 w b σ G) (GG:Good σ) (r:Int) (hk:key.length=32) {vv:Value} (hb:Bytes w vv bs) (hP:GB σ r key bs x σ') :
 Calls Tryz.prog 224 #[.pointer (some ⟨b,0,none⟩),.int .i64 r,.agg (AS key),vv] w fun e w'=>e=.returned (.tuple #[.int .i64 x,.int .i64 (Bh σ r bs)])∧ROw w0 w' b σ' G∧But G w w':=by
 rcases hP with⟨he,rfl,rfl⟩|⟨he,l,e1,ho,h4⟩
 · obtain⟨ao,cap,rfl,_⟩:=hb.form
   have key1:∀ {e:Ending} {w':World},e=.returned (.tuple #[.int .i64 0,.int .i64 (Bh σ' r bs)])∧AN w w'→e=.returned (.tuple #[.int .i64 0,.int .i64 (Bh σ' r bs)])∧ROw w0 w' b σ' G∧But G w w':=fun ⟨he',ha⟩=>⟨he',h.adds ha,AN.but ha⟩
   by_cases h1:1024<bs.length
   · have e0:Bh σ' r bs=4:=if_pos h1
     rw[e0] at key1 ⊢;exact(RU h r (AS key) ao bs.length cap h1).mono fun e w' h=>key1 h
   by_cases h2:Az σ' r=0
   · have h3:C9 σ' 1=false:=by
      cases h3:C9 σ' 1 with
      | false=>rfl
      | true=>exact absurd (by unfold Bh;rw[if_neg h1,if_neg (by simpa using h2),if_neg (by rw[h3];simp)]) he
     have e0:Bh σ' r bs=9:=by unfold Bh;rw[if_neg h1,if_neg (by simpa using h2),if_pos h3]
     rw[e0] at key1 ⊢;exact(QY h GG r (AS key) ao bs.length cap (by omega) h2 h3).mono fun e w' h=>key1 h
   have e0:Bh σ' r bs=Az σ' r:=by unfold Bh;rw[if_neg h1,if_pos h2]
   rw[e0] at key1 ⊢;exact(RL h GG r (AS key) ao bs.length cap (by omega) h2).mono fun e w' h=>key1 h
 obtain⟨h1,h2,h3⟩:=GJ he;rw[he];rcases h4 with⟨hs,rfl,rfl⟩|⟨hs,v,rfl,rfl⟩
 · exact(Qb h GG x key hk hb h1 h2 h3 ho hs).mono fun e w' ⟨he',ha⟩=>⟨he',h.adds ha,AN.but ha⟩
 exact Uq h GG r key hk hb h1 h2 h3 ho hs v
theorem Rm (h:Ow w0 w s σ G) (GG:Good σ) (r:Int) (hk:key.length=32) {vv:Value} (hb:Bytes w vv bs) :
 Calls Tryz.prog 227 #[.pointer (some ⟨s,0,none⟩),.int .i64 r,.agg (AS key),vv] w fun e w'=>∃x,e=.returned (.tuple #[.int .i64 x,.int .i64 (DF σ r bs)])∧PA σ r key bs x∧AN w w':=by
 obtain⟨F,hAt⟩:=h.at;by_cases he:DF σ r bs=0
 · obtain⟨h1,h2⟩:=Hv he
   have hre:=FZ h2;obtain⟨t,l,e1,_,ho,_⟩:=Mc GG key hre;refine(Ue hAt GG r key hk hb h1 h2 hre ho).mono fun e w' ⟨he',ha⟩=>⟨_,?_,.inr ⟨he,l,e1,ho,rfl⟩,ha⟩
   rw[he];exact he'
 obtain⟨ao,cap,rfl,_⟩:=hb.form;by_cases h1:1024<bs.length
 · have e0:DF σ r bs=4:=if_pos h1
   refine(QH hAt r (AS key) ao bs.length cap h1).mono fun e w' ⟨he',ha⟩=>⟨0,?_,.inl ⟨he,rfl⟩,ha⟩
   rw[e0];exact he'
 have e0:DF σ r bs=Az σ r:=if_neg h1;refine(Q0 hAt r (AS key) ao bs.length cap (by omega) (by rw[←e0];exact he)).mono fun e w' ⟨he',ha⟩=>⟨0,?_,.inl ⟨he,rfl⟩,ha⟩
 rw[e0];exact he'
theorem Qy (h:ROw w0 w b σ G) (GG:Good σ) (r:Int) (hk:key.length=32) {vv:Value} (hb:Bytes w vv bs) (hC:PA σ r key bs x) :
 Calls Tryz.prog 228 #[.pointer (some ⟨b,0,none⟩),.int .i64 r,.agg (AS key),vv] w fun e w'=>e=.returned (.tuple #[.int .i64 x,.int .i64 (DF σ r bs)])∧AN w w':=by
 rcases hC with⟨he,rfl⟩|⟨he,l,e1,ho,rfl⟩
 · obtain⟨ao,cap,rfl,_⟩:=hb.form
   by_cases h1:1024<bs.length
   · have e0:DF σ r bs=4:=if_pos h1
     rw[e0];exact PE h r (AS key) ao bs.length cap h1
   have e0:DF σ r bs=Az σ r:=if_neg h1;rw[e0];exact Ox h GG r (AS key) ao bs.length cap (by omega) (by rw[←e0];exact he)
 obtain⟨h1,h2⟩:=Hv he;rw[he];exact R3 h GG r key hk hb h1 h2 ho
theorem GB.roots {L:Av} {R:List (Int×Av)} (h:GB σ r key bs x σ') (D:CQ σ ((r,L)::R)) (hk:key.length=32) (htot:total σ+600<1073741824) (h0:Bh σ r bs=0) :
 WroteR σ σ' r x 258 600∧CQ σ' ((x,upd L key bs)::R)∧x≠0:=by
 have D0:Db σ r L:=D.db (List.mem_cons_self ..);have hz:=D0.good.fit.zero;obtain⟨h1,h2,h3⟩:=GJ h0;have hin:=Tg (v:=bs) 256 (Nat.le_refl _) (Av.Ok.any D0.nodup D0.len key) hk;rw[Nat.sub_self] at hin;obtain⟨hd1,hd2⟩:=R0 (bs:=bs) D0.nodup D0.len hk
 have hroom:live σ+258≤σ.room:=by
  rw[P1,D0.good.used] at h3;exact of_decide_eq_true h3
 rcases h with⟨he,_⟩|⟨_,l,e1,ho,⟨hs,rfl,rfl⟩|⟨hs,v,rfl,rfl⟩⟩
 · exact absurd h0 he
 · obtain⟨y,hy,g1,g2,g3⟩:=QZ hs
   have hr0:x≠0:=fun e=>by
    subst e;obtain⟨_,e⟩:=ho.zero hz;rw[e,hz] at hy;cases hy
   have hins:=ho.Tx hz D0.rep hy g1 g2;rw[g3] at hins;have hst:=Step.refl D0.good x;exact⟨⟨hst,Nat.le_add_right _ _,Nat.le_add_right _ _,rfl⟩,D.step hst (by rw[←hin,hins];exact D0.rep) hd1 hd2,hr0⟩
 have hc:=KU D0.good hk ho;have hM:=PutMid.made D0.good hk bs v h1 D0.rep ho (by omega) htot;have hP:=Rb D0.good hk bs v h1 D0.rep D0.held ho (by omega) htot;have hst:Step σ (Fv σ r key bs v l e1).2 r (Fv σ r key bs v l e1).1:=hM.step D0.good D0.held;exact⟨⟨hst,by have:=hP.live;omega,by have:=hP.total;omega,hP.room⟩,D.step hst (by rw[←hin];exact hP.rep) hd1 hd2,hP.ne⟩
end
end Go.Proofs.YtngbdbpofifimaaGreat.Store
