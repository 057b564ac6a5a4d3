/- Laws of the layers below. -/
import Derived.Test.YtngbdbpofifimaaGreatQl23
set_option maxHeartbeats 3200000
set_option maxRecDepth 100000
set_option linter.unusedVariables false
namespace Go.Proofs.YtngbdbpofifimaaGreat.Law9
open Go.RowKit Go.Sort Go.Proofs.YtngbdbpofifimaaGreat.ShaW Go.Proofs.YtngbdbpofifimaaGreat.Path Go.Proofs.YtngbdbpofifimaaGreat.Store
section
variable {w0 w : World} {s : Nat} {σ : AD Nd} {G : Nat→Prop}
def MA (w0 w:World) (s:Nat) (σ:AD Nd) (G:Nat→Prop) (k:List UInt8) (d:Nat) (t:Tr) (n m:Nat) (e:Ending) (w':World):Prop :=
 ∃r σ',e=.returned (.int .i64 r)∧Ow w0 w' s σ' G∧But G w w'∧Bt σ σ' k r d t n m
theorem UD {o:Int} (p:List UInt8×List UInt8):(Br σ o=some p)↔((nd σ o).kind=1∧(nd σ o).key=p.1∧(nd σ o).value=p.2):=by
 unfold Br;by_cases h:(nd σ o).kind=1
 · rw[if_pos h]
   constructor
   · intro e;injection e with e;subst e;exact⟨h,rfl,rfl⟩
   rintro⟨_,e1,e2⟩;rw[e1,e2]
 rw[if_neg h];exact⟨fun e=>(by cases e),fun e=>absurd e.1 h⟩
theorem US (h:Ow w0 w s σ G) (GG:Store.Good σ) {la:Option Addr} {x:Wm} (cap:Nat) (hl:WmsG G w la [x]) (hcap:1≤cap) {k:List UInt8} {d:Nat} (hd:d≤256) (hp:Pre x.key k d) (hv:x.val.length≤1024) (old:Int)
 (hroom:Store.live σ+(257-d)*Bx (Br σ old) [x.ent]≤σ.room) (htot:Store.total σ<1073741824) :
 Calls Tryz.prog 211 #[.pointer (some ⟨s,0,none⟩),.int .i64 old,.int .i64 (d:Nat),.slice la 1 cap] w
  (MA w0 w s σ G k d (.leaf x.key x.val) ((257-d)*Bx (Br σ old) [x.ent]) ((257-d)*Bx (Br σ old) [x.ent]+(1-Bx (Br σ old) [x.ent]))):=by
 obtain⟨F,hAt⟩:=h.at;obtain⟨g,off,rfl,cur,ty,fr,c1,c2,c3⟩:=hl.at_.row 0 x rfl;have hg:=hl.at_.good x (by simp);rw[Nat.zero_mul,Nat.add_zero] at c2 c3;rw[Wm.size hg.key] at c2 c3;obtain⟨ck,cgn,cv⟩:=QU hg.key c3;have hkd:=fun w1 (a:Adds w w1)=>E3 (hAt.adds a) old
 have hky:=fun w1 (a:Adds w w1)=>Key_ok (hAt.adds a) old
 have hva:=fun w1 (a:Adds w w1)=>Dh (hAt.adds a) old
 have hvl:=hg.val;have hcv:=fun w1 (a:Adds w w1)=>DM (hvl.Af a (fun _ _ h=>h))
 obtain⟨kd,hkdd⟩:∃kd,kd=(nd σ old).kind:=⟨_,rfl⟩
 obtain⟨ky,hkyd⟩:∃ky,ky=(nd σ old).key:=⟨_,rfl⟩
 obtain⟨vl,hvld⟩:∃vl,vl=(nd σ old).value:=⟨_,rfl⟩
 have hkylen:kd=1→ky.length=32:=fun e=>by
  obtain⟨y,hy⟩:∃y,sk σ old=some y:=by
   cases hy:sk σ old with
   | none=>have:=Ez hy;omega
   | some y=>exact⟨y,rfl⟩
  rw[hkyd,C6 hy];exact(GG.fit.all _ _ hy).key
 rw[←hkdd] at hkd;rw[←hkyd] at hky;rw[←hvld] at hva;obtain⟨K,hK⟩:∃K,K=AK x.key:=⟨_,rfl⟩
 have hks:K.size=32:=by rw[hK,AN];exact hg.key
 rw[←hK] at ck;have hsl:=UD (σ:=σ) (o:=old) x.ent;rw[←hkdd, ←hkyd, ←hvld] at hsl;have HA:=(hIq h (aIq GG (aIq hp (aIq hv (aIq hroom htot)))))
 have HW:=(hIq hkd (aIq hky (aIq hva hcv)))
 have HC:=(hIq c1 (aIq c2 (aIq ck cv)))
 have HK:=(hIq hK hks)
 have HD:=(hIq hkdd (aIq hkyd (aIq hvld (aIq hkylen hsl))))
 have HX:=(hIq hg hd)
 have HG:=Lib.hid hl;have hcap1:(0:Nat)<1:=by decide
 clear hkd hky hva hvl hcv hK hks c1 c2 c3 ck cgn cv hkdd hkyd hvld hkylen hg hAt h GG hp hv hroom htot hl hsl hd;go_enter Tryz.func211,Tryz.ntmps211;go_upto_region 5 with fail;go_cut [44] (fun s44 wx=>s44=.bool (decide (Br σ old=some x.ent))∧Adds w wx)
 case first =>
  by_cases hk1:kd=1
  · subst hk1
    have e1':(((1:Nat):Int) == 1)=true:=rfl;have hq:=fun w0=>FU 47 Tryz.underlying47 ky x.key (HD.out.2.2.2.1 rfl) HX.out.1.key w0
    rw[←HK.out.1] at hq;obtain⟨KY,hKY⟩:∃KY,KY=AK ky:=⟨_,rfl⟩
    have hky2:=HW.out.2.1;rw[←hKY] at hq;by_cases hkk:ky=x.key
    · rw[decide_eq_true hkk] at hq
      have HKK:=Lib.hid hkk;have HQ:=Lib.hid hq;have HKY:=Lib.hid hKY;obtain⟨same,hsame⟩:∃y,y=decide (vl=x.val):=⟨_,rfl⟩
      have HSM:=Lib.hid hsame;have HYS:RowKit.Hid (decide (Br σ old=some x.ent)=decide (vl=x.val)):=Lib.hid (decide_eq_decide.2 ⟨fun e=>(HD.out.2.2.2.2.1 e).2.2,fun e=>HD.out.2.2.2.2.2 ⟨rfl,HKK.out,e⟩⟩);clear hkk hq hky2 hKY hsame;go_wp2;refine AO (fun w0=>Adds w w0) 26 [(0,false),(1,false),(2,true),(3,false),(4,false),(5,false),(6,false),(8,false),(9,false),(10,false),(11,false),(7,true),(12,false),(13,false),(14,false),(15,false),(16,false),(19,false),(20,false),(21,false),(22,false),(23,false),(17,true),(18,true),(24,false),(25,false)] (by kernel_rfl) (by kernel_rfl) ?_ ?_
      · exact(Ch.refl _ _).drew
      iterate 2
       iterate 1 refine plan_look rfl rfl (fun w0 hS=>(by go_simp;try rfl)) ?_
       simp only[Act.put,nAq,nBq,nCq]
      refine AV rfl ?_;go_wp2_with fail;refine(HW.out.1 _ (Ch.refl _ _).drew).mono ?_;rintro e w1 ⟨rfl,a1⟩;have A1:=Lib.hid ((Ch.refl (fun _=>False) w).drew.trans a1 (fun _=>fEq));clear a1;dsimp only;go_step;refine wpList_nil ?_;change _∧_;refine⟨A1.out,?_⟩;refine plan_look (v:=.bool true) rfl rfl (fun w0 hS=>(by clear hS;go_simp;try rfl)) ?_;simp only[Act.put,nAq,nBq,nCq]
      iterate 6
       iterate 1 refine plan_look rfl rfl (fun w0 hS=>(by go_simp;try rfl)) ?_
       simp only[Act.put,nAq,nBq,nCq]
      refine Aw (cur:=cur) (t:=ty) (fr:=fr) rfl rfl 47 _ rfl g off 32 rfl (fun w0 hS=>hS.row HC.out.1 id) Tryz.underlying47 rfl AY (by have:=HC.out.2.1;omega) K HC.out.2.2.1 ?_;simp only[Act.put,nAq,nBq,nCq];refine AV rfl ?_;go_wp2_with fail;refine(HW.out.2.1 _ A1.out).mono ?_;rintro e w2 ⟨rfl,a2⟩;rw[←HKY.out];have A2:=Lib.hid (A1.out.trans a2 (fun _=>fEq));clear a2;dsimp only;go_step;refine wpList_nil ?_;change _∧_;refine⟨A2.out,?_⟩;refine plan_look (v:=.bool true) rfl rfl (fun w0 hS=>(by have hq:=HQ.out w0;rw[run_eql_struct] at hq;clear hS;go_simp)) ?_;simp only[Act.put,nAq,nBq,nCq]
      iterate 2
       refine plan_look (v:=.bool true) rfl rfl (fun w0 hS=>(by clear hS;go_simp;try rfl)) ?_;simp only[Act.put,nAq,nBq,nCq]
      iterate 5
       iterate 1 refine plan_look rfl rfl (fun w0 hS=>(by go_simp;try rfl)) ?_
       simp only[Act.put,nAq,nBq,nCq]
      refine plan_look (v:=x.vv) rfl rfl (fun w0 hS=>(by have e0:=AH (hS.row HC.out.1 id) HC.out.2.2.2;clear hS;go_simp;try rfl)) ?_;simp only[Act.put,nAq,nBq,nCq];refine Je rfl rfl 29 9 (.tmp 41) (.string (BP x.val)) rfl x.vv rfl (fun w0 hS=>HW.out.2.2.2 w0 hS) ?_;simp only[Act.put,nAq,nBq,nCq];refine AV rfl ?_;go_wp2_with fail;refine(HW.out.2.2.1 _ A2.out).mono ?_;rintro e w3 ⟨v3,rfl,hb3,_,a3⟩;have A3:=Lib.hid (A2.out.trans a3 (fun _=>fEq));have hc3:=DM hb3;clear a3 hb3;dsimp only;go_step;refine wpList_nil ?_;change _∧_;refine⟨A3.out,?_⟩;refine AV rfl ?_;go_wp2;refine⟨A3.out,?_⟩;refine plan_look (v:=.bool same) rfl rfl (fun w0 hS=>(by clear hS;go_simp;rw[HSM.out];exact LH vl x.val)) ?_;simp only[Act.put,nAq,nBq,nCq];refine plan_look (v:=.bool same) rfl rfl (fun w0 hS=>(by clear hS;go_simp;try rfl)) ?_;simp only[Act.put,nAq,nBq,nCq];refine AZ ?_;simp only[List.drop_succ_cons,List.drop_zero];go_wp2;refine NoPanic.normal ?_;go_wp2;go_meet;exact⟨by rw[HYS.out,HSM.out],A3.out⟩
    rw[decide_eq_false hkk] at hq;have hno:decide (Br σ old=some x.ent)=false:=decide_eq_false (fun e=>hkk (HD.out.2.2.2.2.1 e).2.1);have HNO:=Lib.hid hno;have HQ:=Lib.hid hq;have HKY:=Lib.hid hKY;clear hkk hq hno hky2 hKY;go_wp2;refine AO (fun w0=>Adds w w0) 26 [(0,false),(1,false),(2,true),(3,false),(4,false),(5,false),(6,false),(8,false),(9,false),(10,false),(11,false),(7,true),(12,false),(13,false),(14,false),(15,false),(16,false),(19,false),(20,false),(21,false),(22,false),(23,false),(17,false),(18,false),(24,false),(25,false)] (by kernel_rfl) (by kernel_rfl) ?_ ?_
    · exact(Ch.refl _ _).drew
    iterate 2
     iterate 1 refine plan_look rfl rfl (fun w0 hS=>(by go_simp;try rfl)) ?_
     simp only[Act.put,nAq,nBq,nCq]
    refine AV rfl ?_;go_wp2_with fail;refine(HW.out.1 _ (Ch.refl _ _).drew).mono ?_;rintro e w1 ⟨rfl,a1⟩;have A1:=Lib.hid ((Ch.refl (fun _=>False) w).drew.trans a1 (fun _=>fEq));clear a1;dsimp only;go_step;refine wpList_nil ?_;change _∧_;refine⟨A1.out,?_⟩;refine plan_look (v:=.bool true) rfl rfl (fun w0 hS=>(by clear hS;go_simp;try rfl)) ?_;simp only[Act.put,nAq,nBq,nCq]
    iterate 6
     iterate 1 refine plan_look rfl rfl (fun w0 hS=>(by go_simp;try rfl)) ?_
     simp only[Act.put,nAq,nBq,nCq]
    refine Aw (cur:=cur) (t:=ty) (fr:=fr) rfl rfl 47 _ rfl g off 32 rfl (fun w0 hS=>hS.row HC.out.1 id) Tryz.underlying47 rfl AY (by have:=HC.out.2.1;omega) K HC.out.2.2.1 ?_;simp only[Act.put,nAq,nBq,nCq];refine AV rfl ?_;go_wp2_with fail;refine(HW.out.2.1 _ A1.out).mono ?_;rintro e w2 ⟨rfl,a2⟩;rw[←HKY.out];have A2:=Lib.hid (A1.out.trans a2 (fun _=>fEq));clear a2;dsimp only;go_step;refine wpList_nil ?_;change _∧_;refine⟨A2.out,?_⟩;refine plan_look (v:=.bool false) rfl rfl (fun w0 hS=>(by have hq:=HQ.out w0;rw[run_eql_struct] at hq;clear hS;go_simp)) ?_;simp only[Act.put,nAq,nBq,nCq]
    iterate 2
     refine plan_look (v:=.bool false) rfl rfl (fun w0 hS=>(by clear hS;go_simp;try rfl)) ?_;simp only[Act.put,nAq,nBq,nCq]
    iterate 10
     refine CL rfl (by rfl) ?_;simp only[Act.put,nAq,nBq,nCq]
    refine plan_look (v:=.bool false) rfl rfl (fun w0 hS=>(by clear hS;go_simp;try rfl)) ?_;simp only[Act.put,nAq,nBq,nCq];refine AZ ?_;simp only[List.drop_succ_cons,List.drop_zero];go_wp2;refine NoPanic.normal ?_;go_wp2;go_meet;exact⟨by rw[HNO.out],A2.out⟩
  have e1':((kd:Int) == 1)=false:=by simpa using (show ¬(kd:Int)=1 by omega)
  have e2':decide ((kd:Int)=1)=false:=decide_eq_false (by omega);have e3':decide (kd=1)=false:=decide_eq_false hk1;have hno:decide (Br σ old=some x.ent)=false:=decide_eq_false (fun e=>hk1 (HD.out.2.2.2.2.1 e).1);have HNO:=Lib.hid hno;clear hk1 hno;go_wp2;refine AO (fun w0=>Adds w w0) 26 [(0,false),(1,false),(2,true),(3,false),(4,false),(5,false),(6,false),(8,false),(9,false),(10,false),(11,false),(7,false),(12,false),(13,false),(14,false),(15,false),(16,false),(19,false),(20,false),(21,false),(22,false),(23,false),(17,false),(18,false),(24,false),(25,false)] (by kernel_rfl) (by kernel_rfl) ?_ ?_
  · exact(Ch.refl _ _).drew
  iterate 2
   iterate 1 refine plan_look rfl rfl (fun w0 hS=>(by go_simp;try rfl)) ?_
   simp only[Act.put,nAq,nBq,nCq]
  refine AV rfl ?_;go_wp2_with fail;refine(HW.out.1 _ (Ch.refl _ _).drew).mono ?_;rintro e w1 ⟨rfl,a1⟩;have A1:=Lib.hid ((Ch.refl (fun _=>False) w).drew.trans a1 (fun _=>fEq));clear a1;dsimp only;go_step;refine wpList_nil ?_;change _∧_;refine⟨A1.out,?_⟩;refine plan_look (v:=.bool false) rfl rfl (fun w0 hS=>(by clear hS;go_simp;try rfl)) ?_;simp only[Act.put,nAq,nBq,nCq]
  iterate 1 refine plan_look rfl rfl (fun w0 hS=>(by go_simp;try rfl)) ?_
  simp only[Act.put,nAq,nBq,nCq]
  iterate 8
   refine CL rfl (by rfl) ?_;simp only[Act.put,nAq,nBq,nCq]
  iterate 2
   refine plan_look (v:=.bool false) rfl rfl (fun w0 hS=>(by clear hS;go_simp;try rfl)) ?_;simp only[Act.put,nAq,nBq,nCq]
  iterate 10
   refine CL rfl (by rfl) ?_;simp only[Act.put,nAq,nBq,nCq]
  refine plan_look (v:=.bool false) rfl rfl (fun w0 hS=>(by clear hS;go_simp;try rfl)) ?_;simp only[Act.put,nAq,nBq,nCq];refine AZ ?_;simp only[List.drop_succ_cons,List.drop_zero];go_wp2;refine NoPanic.normal ?_;go_wp2;go_meet;exact⟨by rw[HNO.out],A1.out⟩
 obtain⟨rfl,hA⟩:=hcut;have HA2:=Lib.hid hA;by_cases he:Br σ old=some x.ent
 · have hb:decide (Br σ old=some x.ent)=true:=decide_eq_true he
   have hfew:Bx (Br σ old) [x.ent]=0:=by unfold Bx;simp[he]
   rw[hb];have hkp:=N1 (HA.out.1.adds hA) old;obtain⟨h1,h2,h3⟩:=HD.out.2.2.2.2.1 he
   obtain⟨y,hy⟩:∃y,sk σ old=some y:=by
    cases hy:sk σ old with
    | none=>have:=Ez hy;have:=HD.out.1;omega
    | some y=>exact⟨y,rfl⟩
   have ek:y.key=x.key:=by rw[←C6 hy, ←HD.out.2.1];exact h2
   have ev:y.value=x.val:=by rw[←Dg hy, ←HD.out.2.2.1];exact h3
   have hr:Rep (sk σ) old d (.leaf x.key x.val):=by
    rw[←ek, ←ev];exact .leaf hy (by rw[←Ci hy, ←HD.out.1];exact h1)
   have hbt:=Bt.kept (key:=k) HA.out.2.1 hr (fun z hz=>by rw[hy] at hz;cases hz;rw[ek];exact HA.out.2.2.1) HA.out.2.2.2.2.2;have HKP:=(hIq hkp (aIq hbt hfew))
   clear hA he hb hkp h1 h2 h3 hy ek ev hr hbt hfew;go_wp2_with fail;refine HKP.out.1.mono ?_;rintro e w3 ⟨rfl,o3,b3⟩;have H3:=(hIq o3 ((Adds.but HA2.out).then b3))
   clear o3 b3;go_wp2;go_ret;exact⟨old,_,rfl,H3.out.1,H3.out.2,HKP.out.2.1.Ik (Nat.zero_le _) (by have:=HKP.out.2.2;omega)⟩
 have hb:decide (Br σ old=some x.ent)=false:=decide_eq_false he;have hfew:Bx (Br σ old) [x.ent]=1:=by unfold Bx;simp[he]
 rw[hb];have HFW:=Lib.hid hfew;have hlf:=(HA.out.1.adds hA.drew).leaf x.key HX.out.1.key (HX.out.1.val.Af hA.drew (fun _ _ h=>h)) (fun h0 k hk=>Nat.lt_of_lt_of_le (HX.out.1.blk h0 k hk) hA.size);rw[←HK.out.1] at hlf;have HLF:=Lib.hid hlf;clear hA he hb hfew hlf;go_wp2;refine AO (fun w0=>w0.heap[g]?=some (.cells cur ty fr)) 15 [(0,false),(1,false),(2,false),(3,false),(4,false),(5,false),(6,false),(7,false),(8,false),(9,true),(10,false),(11,false),(12,false),(13,false),(14,false)] (by kernel_rfl) (by kernel_rfl) ?_ ?_
 · exact AP (HA2.out.row HC.out.1 id)
 iterate 4
  iterate 1 refine plan_look rfl rfl (fun w0 hS=>(by go_simp;try rfl)) ?_
  simp only[Act.put,nAq,nBq,nCq]
 refine Ah (cur:=cur) (t:=ty) (fr:=fr) rfl rfl 47 _ rfl g off 32 rfl (fun w0 hS=>hS) Tryz.underlying47 rfl AY (by have:=HC.out.2.1;omega) K HC.out.2.2.1 ?_;simp only[Act.put,nAq,nBq,nCq]
 iterate 3
  iterate 1 refine plan_look rfl rfl (fun w0 hS=>(by go_simp;try rfl)) ?_
  simp only[Act.put,nAq,nBq,nCq]
 refine plan_look (v:=x.vv) rfl rfl (fun w0 hS=>(by have e0:=AH hS HC.out.2.2.2;clear hS;go_simp;try rfl)) ?_;simp only[Act.put,nAq,nBq,nCq];refine AV rfl ?_;go_wp2_with fail;refine HLF.out.mono ?_;rintro e w3 ⟨vv,rfl,o3,b3⟩;have hbt:=Bt.leaf (key:=k) (d:=d) HA.out.2.1 (by have h1:=HA.out.2.2.2.2.1;have h2:=HX.out.2;rw[HFW.out,Nat.mul_one] at h1;omega) x.key x.val vv HX.out.1.key HA.out.2.2.2.1 HA.out.2.2.1;have hr3:=b3.row (AP (HA2.out.row HC.out.1 id)) (by obtain⟨a,e,hG⟩:=HG.out.row (by simp);injection e with e;subst e;exact hG);have H3:=(hIq o3 (aIq ((Adds.but HA2.out.drew).then b3) (aIq hbt.2 hr3)))
 rw[hbt.1];clear o3 b3 hbt hr3;dsimp only;go_step;refine wpList_nil ?_;change _∧_;refine⟨H3.out.2.2.2,?_⟩
 iterate 5
  refine plan_look rfl rfl (fun w0 hS=>(by clear hS;go_simp;try rfl)) ?_;simp only[Act.put,nAq,nBq,nCq]
 refine AZ ?_;simp only[List.drop_succ_cons,List.drop_zero];go_wp2;refine NoPanic.normal ?_;go_wp2;go_ret;exact⟨_,_,rfl,H3.out.1,H3.out.2.1,H3.out.2.2.1.Ik (by rw[HFW.out];have:=HX.out.2;omega) (by rw[HFW.out];have:=HX.out.2;omega)⟩
structure Q1 (G:Nat→Prop) (w:World) (σ:AD Nd) (la:Option Addr) (cap:Nat) (l:List Wm) (old:Int) (k:List UInt8) (d:Nat):Prop where
 row:WmsG G w la l
 cap:l.length≤cap∨l = []
 few:l.length≤200
 key:k.length=32
 ok:AS.Ok (l.map Wm.ent) k d
 rise:C8 (l.map Wm.ent)
 val:∀x∈l,x.val.length≤1024
 was:old=0∨∃x,sk σ old=some x
 room:Store.live σ+(257-d)*Bx (Br σ old) (l.map Wm.ent)≤σ.room
 total:Store.total σ+(257-d)*Bx (Br σ old) (l.map Wm.ent)+l.length<1073741824
theorem Ni (m:Nat) {la:Option Addr} {cap:Nat} {l:List Wm} {old:Int} {k:List UInt8} {d:Nat} (hd:d+m=256) (h1:l.length≤1) (h:Ow w0 w s σ G) (GG:Store.Good σ) (H:Q1 G w σ la cap l old k d) :
 Calls Tryz.prog 211 #[.pointer (some ⟨s,0,none⟩),.int .i64 old,.int .i64 (d:Nat),.slice la l.length cap] w
  (MA w0 w s σ G k d (tree m (l.map Wm.ent)) ((257-d)*Bx (Br σ old) (l.map Wm.ent)) ((257-d)*Bx (Br σ old) (l.map Wm.ent)+(l.length-Bx (Br σ old) (l.map Wm.ent)))):=by
 match l,H,h1 with
 | [],H,_ =>
  have HB:=(hIq h (Bt.nil GG k d))
  rw[show tree m (([]:List Wm).map Wm.ent)=.nil from CD m];clear h H;go_enter Tryz.func211,Tryz.ntmps211;go_wp2;go_ret;exact⟨0,σ,rfl,HB.out.1,Ch.refl _ _,HB.out.2.Ik (Nat.zero_le _) (Nat.zero_le _)⟩
 | [x],H,_ =>
  rw[show tree m ([x].map Wm.ent)=.leaf x.key x.val from BU m x.ent];exact US h GG cap H.row (H.cap.resolve_right (by simp)) (by omega) (H.ok.pre x.ent (by simp)) (H.val x (by simp)) old H.room (by have:=H.total;omega)
theorem Zx {a b f:Nat} (hf:1≤f) (hab:a=b+1):b*f+1≤a*f:=by
 subst hab;rw[Nat.succ_mul];omega
theorem Q1.sides {la:Option Addr} {cap:Nat} {l:List Wm} {old:Int} {k:List UInt8} {d m n:Nat} (H:Q1 G w σ la cap l old k d) (hd:d+(m+1)=256) (hl2:2≤l.length) (hnl:n≤l.length) (p0:∀i x,i<n→l[i]?=some x→AU x.key d=0) (p1:∀x,l[n]?=some x→AU x.key d=1) :
 sideE 0 d (l.map Wm.ent)=(l.take n).map Wm.ent∧sideE 1 d (l.map Wm.ent)=(l.drop n).map Wm.ent:=by
 have:=JA (n:=n) H.ok (by omega) H.rise (fun i p hi hp=>by
  rw[List.getElem?_map] at hp;cases hx:l[i]? with
  | none=>rw[hx] at hp;cases hp
  | some x=>rw[hx] at hp;cases hp;exact p0 i x hi hx) (fun p hp=>by
  rw[List.getElem?_map] at hp;cases hx:l[n]? with
  | none=>rw[hx] at hp;cases hp
  | some x=>rw[hx] at hp;cases hp;exact p1 x hx)
 rw[List.map_take,List.map_drop];exact this
theorem VK:∀(m d:Nat),d+m=256→∀ {w0 w:World} {s:Nat} {σ:AD Nd} {G:Nat→Prop} {la:Option Addr} {cap:Nat} {l:List Wm} {old:Int} {k:List UInt8},Ow w0 w s σ G→Store.Good σ→Q1 G w σ la cap l old k d →
 Calls Tryz.prog 211 #[.pointer (some ⟨s,0,none⟩),.int .i64 old,.int .i64 (d:Nat),.slice la l.length cap] w
  (MA w0 w s σ G k d (tree m (l.map Wm.ent)) ((257-d)*Bx (Br σ old) (l.map Wm.ent)) ((257-d)*Bx (Br σ old) (l.map Wm.ent)+(l.length-Bx (Br σ old) (l.map Wm.ent)))):=by
 intro m
 induction m with
 | zero =>
  intro d hd w0 w s σ G la cap l old k h GG H;refine Ni 0 hd ?_ h GG H;have:=H.ok;rw[show d=256 by omega] at this;have:=this.few
  rwa [List.length_map] at this
 | succ m ih =>
  intro d hd w0 w s σ G la cap l old k h GG H;by_cases hl1:l.length≤1
  · exact Ni (m+1) hd hl1 h GG H
  have hl2:2≤l.length:=by omega
  have hcap:=H.cap.resolve_right (by intro e;rw[e] at hl2;simp at hl2);have hpt:=ME cap H.row.at_ (by have:=H.few;omega) d (by omega);obtain⟨len,hlen⟩:∃len,len=l.length:=⟨_,rfl⟩
  have hn0:¬(len:Int)=0:=by omega
  have hn1:¬(len:Int)=1:=by omega
  have hwd:wrap64 ((d:Int)+1)=(d:Int)+1:=by unfold wrap64;omega
  rw[←hlen] at hpt;have HP:=Lib.hid hpt;have HH:=(hIq h (aIq GG H))
  have HL:=(hIq hlen (aIq hl2 hcap))
  have HD:=Lib.hid hd;have HIH:=Lib.hid ih;rw[←hlen];clear h GG H hpt hlen hl2 hcap ih hd hl1;go_enter Tryz.func211,Tryz.ntmps211;go_wp2_with fail;refine HP.out.mono ?_;rintro e w1 ⟨a1,n,rfl,hnl,p0,p1⟩;obtain⟨b0,b1⟩:=HH.out.2.2.sides HD.out HL.out.2.1 (by have:=HL.out.1;omega) p0 p1;obtain⟨k1,e1,e2,e3⟩:=GU k HH.out.2.2.key (d:=d) (by have:=HD.out;omega) 0 (.inl rfl);obtain⟨k2,e4,e5,e6⟩:=GU k HH.out.2.2.key (d:=d) (by have:=HD.out;omega) 1 (.inr rfl);have hfs:=RG (Br σ old) d (l.map Wm.ent);have hfp:=SY (e:=Br σ old) HH.out.2.2.ok.nodup (by rw[List.length_map];exact HL.out.2.1);have hjt:=NJ (m:=m) (by have:=HD.out;omega) HH.out.2.2.key (L:=l.map Wm.ent) (by rw[show 255-m=d by have:=HD.out;omega];exact HH.out.2.2.ok);rw[show 255-m=d by have:=HD.out;omega] at hjt;rw[b0,b1] at hfs hjt;have hk1:=HH.out.2.2.ok.Hu e2 e3;have hk2:=HH.out.2.2.ok.Hu e5 e6;rw[b0] at hk1;rw[b1] at hk2;have ht1:(l.take n).length=n:=by rw[List.length_take];have:=HL.out.1;omega
  have ht2:(l.drop n).length=len-n:=by rw[List.length_drop,HL.out.1]
  have hle1:=Lp (Br σ old) ((l.take n).map Wm.ent);have hle2:=Lp (Br σ old) ((l.drop n).map Wm.ent);rw[List.length_map,ht1] at hle1;rw[List.length_map,ht2] at hle2;obtain⟨f,hf⟩:∃f,f=Bx (Br σ old) (l.map Wm.ent):=⟨_,rfl⟩
  obtain⟨f1,hf1⟩:∃f,f=Bx (Br σ old) ((l.take n).map Wm.ent):=⟨_,rfl⟩
  obtain⟨f2,hf2⟩:∃f,f=Bx (Br σ old) ((l.drop n).map Wm.ent):=⟨_,rfl⟩
  rw[←hf, ←hf1, ←hf2] at hfs;rw[←hf] at hfp;rw[←hf1] at hle1;rw[←hf2] at hle2;obtain⟨c,hc⟩:∃c,c=256-d:=⟨_,rfl⟩
  have hmul:c*f1+c*f2=c*f:=by rw[←hfs,Nat.mul_add]
  have hup:c*f+1≤(257-d)*f:=Zx hfp (by have:=HD.out;omega);have hcd:257-(d+1)=c:=by omega
  have o0:=HH.out.1.adds a1;have r0:=HH.out.2.2.row.but (Adds.but a1);have hroom:=HH.out.2.2.room;have htot:=HH.out.2.2.total;rw[←hf] at hroom htot;have HN:=(hIq hmul (aIq hup (aIq hle1 (aIq hle2 (aIq hroom (aIq htot (aIq hfs (aIq hfp hnl))))))))
  have HE:=(hIq hf (aIq hf1 (aIq hf2 (aIq hcd hjt))))
  have HK:=(hIq (aIq e1 (aIq e2 e3)) (aIq e4 (aIq e5 e6)))
  have hF1:Q1 G w1 σ la cap (l.take n) old k1 (d+1):=⟨r0.take n,.inl (by rw[ht1];have:=HL.out;omega),by rw[ht1];have:=HH.out.2.2.few;have:=HL.out.1;omega,e1,hk1,by rw[List.map_take];exact HH.out.2.2.rise.take n,fun x hx=>HH.out.2.2.val x (List.mem_of_mem_take hx),HH.out.2.2.was,
   by rw[hcd, ←hf1];omega,by rw[hcd, ←hf1,ht1];have:=HL.out.1;omega⟩
  have hi1:=HIH.out (d+1) (by have:=HD.out;omega) o0 HH.out.2.1 hF1;rw[ht1,hcd, ←hf1,show((d+1:Nat):Int)=(d:Int)+1 by omega] at hi1;have HI1:=Lib.hid hi1;have HR0:=(hIq r0 (aIq a1 (aIq hk2 (aIq ht2 ht1))))
  have hsh:=fun w0=>Pd w0 la len cap n (by have:=HL.out;omega)
  have hsl:=fun w0=>P2 w0 la len cap n (by have:=HL.out;omega)
  have hlnn:len-n≤cap-n:=by have:=HL.out;omega
  have HLN:=Lib.hid hlnn;clear hfs hfp hjt hk1 hk2 b0 b1 p0 p1 e1 e2 e3 e4 e5 e6 ht1 ht2 hle1 hle2 hf hf1 hf2 hmul hup hcd o0 r0 hroom htot hF1 hi1 hnl hc a1 hlnn;go_wp2_with fail;refine HI1.out.mono ?_;rintro e w2 ⟨r1,σ1,rfl,o1,bt1,B1⟩;have hls:=Qy HH.out.2.2.was B1.old B1.good.fit.zero;have hB1l:=B1.live;have hB1t:=B1.total;have hB1r:=B1.room
  have hF2:Q1 G w2 σ1 (PA 34 la cap n) (cap-n) (l.drop n) old k2 (d+1):=⟨(HR0.out.1.but bt1).drop n cap HL.out.2.2,.inl (by rw[HR0.out.2.2.2.1];exact HLN.out),by rw[HR0.out.2.2.2.1];have:=HH.out.2.2.few;have:=HL.out.1;omega,HK.out.2.1,HR0.out.2.2.1,by rw[List.map_drop];exact HH.out.2.2.rise.drop n,fun x hx=>HH.out.2.2.val x (List.mem_of_mem_drop hx),HH.out.2.2.was.imp id (fun ⟨x,hx⟩=>⟨x,B1.old _ _ hx⟩),
   by rw[HE.out.2.2.2.1,hls, ←HE.out.2.2.1,hB1r];have:=HN.out;omega,by rw[HE.out.2.2.2.1,hls, ←HE.out.2.2.1,HR0.out.2.2.2.1];have:=HN.out;have:=HL.out.1;omega⟩
  have hi2:=HIH.out (d+1) (by have:=HD.out;omega) o1 B1.good hF2;rw[HR0.out.2.2.2.1,HE.out.2.2.2.1,hls, ←HE.out.2.2.1,show((d+1:Nat):Int)=(d:Int)+1 by omega] at hi2;have HI2:=Lib.hid hi2;have HB1:=(hIq B1 bt1)
  clear hls hB1l hB1t hB1r hF2 hi2 B1 bt1 o1;go_wp2_with fail;refine HI2.out.mono ?_;rintro e w3 ⟨r2,σ2,rfl,o2,bt2,B2⟩;have hjo:=Nb o2 (d:Int) r1 r2;have hbt:=Bt.WV HH.out.2.1 (by have:=HD.out;omega) HB1.out.1 B2 HK.out.1.2.1 HK.out.1.2.2 HK.out.2.2.1 HK.out.2.2.2 (by have:=HN.out;omega);rw[HE.out.2.2.2.2] at hbt;have HJ:=(hIq hjo (aIq hbt (((Adds.but HR0.out.2.1).then HB1.out.2).then bt2)))
  clear hjo hbt o2 bt2 B2;go_wp2_with fail;refine HJ.out.1.mono ?_;rintro e w4 ⟨rfl,o4,bt4⟩;have H4:=(hIq o4 (HJ.out.2.2.then bt4))
  clear o4 bt4;go_wp2;go_ret;exact⟨_,_,rfl,H4.out.1,H4.out.2,HJ.out.2.1.Ik (by rw[←HE.out.1];have:=HN.out;omega) (by rw[←HE.out.1];have:=HN.out;have:=HL.out;omega)⟩
end
end Go.Proofs.YtngbdbpofifimaaGreat.Law9
namespace Go.Proofs.YtngbdbpofifimaaGreat
open Go.Shelf
def Qo:Go.Shelf.Ren:=⟨fun|6=>214|15=>253|14=>252|28=>285|29=>286|20=>277|21=>278|22=>279|23=>280|24=>281|25=>282|26=>283|27=>284|46=>309|47=>310|48=>311|49=>312|50=>313|57=>340|n=>n,fun|22=>132|24=>134|25=>313|3=>3|39=>216|0=>0|53=>332|55=>339|4=>4|46=>368|45=>367|50=>302|5=>5|9=>9|66=>387|70=>391|76=>408|77=>226|n=>n,fun|n=>n⟩
theorem WG:Go.Proofs.SlLaysF0.n6 Tryz.prog Qo := {
 mixed:=by kernel_rfl
 f6:=⟨Tryz.f214.name,by decide,Tryz.func214.trans (congrArg some (by kernel_rfl))⟩
 f14:=⟨Tryz.f252.name,by decide,Tryz.func252.trans (congrArg some (by kernel_rfl))⟩
 f15:=Tryz.func253.trans (congrArg some (by kernel_rfl))
 f20:=⟨Tryz.f277.name,by decide,Tryz.func277.trans (congrArg some (by kernel_rfl))⟩
 f21:=⟨Tryz.f278.name,by decide,Tryz.func278.trans (congrArg some (by kernel_rfl))⟩
 f22:=⟨Tryz.f279.name,by decide,Tryz.func279.trans (congrArg some (by kernel_rfl))⟩
 f23:=⟨Tryz.f280.name,by decide,Tryz.func280.trans (congrArg some (by kernel_rfl))⟩
 f24:=⟨Tryz.f281.name,by decide,Tryz.func281.trans (congrArg some (by kernel_rfl))⟩
 f25:=⟨Tryz.f282.name,by decide,Tryz.func282.trans (congrArg some (by kernel_rfl))⟩
 f26:=⟨Tryz.f283.name,by decide,Tryz.func283.trans (congrArg some (by kernel_rfl))⟩
 f27:=⟨Tryz.f284.name,by decide,Tryz.func284.trans (congrArg some (by kernel_rfl))⟩
 f28:=Tryz.func285.trans (congrArg some (by kernel_rfl))
 f29:=Tryz.func286.trans (congrArg some (by kernel_rfl))
 f46:=⟨Tryz.f309.name,by decide,Tryz.func309.trans (congrArg some (by kernel_rfl))⟩
 f47:=Tryz.func310.trans (congrArg some (by kernel_rfl))
 f48:=Tryz.func311.trans (congrArg some (by kernel_rfl))
 f49:=⟨Tryz.f312.name,by decide,Tryz.func312.trans (congrArg some (by kernel_rfl))⟩
 f50:=⟨Tryz.f313.name,by decide,Tryz.func313.trans (congrArg some (by kernel_rfl))⟩
 f57:=⟨Tryz.f340.name,by decide,Tryz.func340.trans (congrArg some (by kernel_rfl))⟩
 t0:=Tryz.underlying0
 a0:=Tryz.isAgg0
 z0:=Tryz.sizeOf0
 v0:=Tryz.zeroValue0
 t3:=Tryz.underlying3
 a3:=Tryz.isAgg3
 z3:=Tryz.sizeOf3
 v3:=Tryz.zeroValue3
 t4:=Tryz.underlying4
 a4:=Tryz.isAgg4
 z4:=Tryz.sizeOf4
 v4:=Tryz.zeroValue4
 t5:=Tryz.underlying5
 a5:=Tryz.isAgg5
 z5:=Tryz.sizeOf5
 v5:=Tryz.zeroValue5
 t9:=Tryz.underlying9
 a9:=Tryz.isAgg9
 z9:=Tryz.sizeOf9
 v9:=Tryz.zeroValue9
 t22:=Tryz.underlying132
 a22:=Tryz.isAgg132
 z22:=Tryz.sizeOf132
 v22:=Tryz.zeroValue132
 t25:=Tryz.underlying313
 a25:=Tryz.isAgg313
 z25:=Tryz.sizeOf313
 v25:=Tryz.zeroValue313
 t39:=Tryz.underlying216
 a39:=Tryz.isAgg216
 z39:=Tryz.sizeOf216
 v39:=Tryz.zeroValue216
 t45:=Tryz.underlying367
 a45:=Tryz.isAgg367
 z45:=Tryz.sizeOf367
 v45:=Tryz.zeroValue367
 t46:=Tryz.underlying368
 a46:=Tryz.isAgg368
 z46:=Tryz.sizeOf368
 v46:=Tryz.zeroValue368
 t50:=Tryz.underlying302
 a50:=Tryz.isAgg302
 z50:=Tryz.sizeOf302
 v50:=Tryz.zeroValue302
 t53:=Tryz.underlying332
 a53:=Tryz.isAgg332
 z53:=Tryz.sizeOf332
 v53:=Tryz.zeroValue332
 t55:=Tryz.underlying339
 a55:=Tryz.isAgg339
 z55:=Tryz.sizeOf339
 v55:=Tryz.zeroValue339
 t66:=Tryz.underlying387
 a66:=Tryz.isAgg387
 z66:=Tryz.sizeOf387
 v66:=Tryz.zeroValue387
 t70:=Tryz.underlying391
 a70:=Tryz.isAgg391
 z70:=Tryz.sizeOf391
 v70:=Tryz.zeroValue391
 t76:=Tryz.underlying408
 a76:=Tryz.isAgg408
 z76:=Tryz.sizeOf408
 v76:=Tryz.zeroValue408
 t77:=Tryz.underlying226
 a77:=Tryz.isAgg226
 z77:=Tryz.sizeOf226
 v77:=Tryz.zeroValue226 }
end Go.Proofs.YtngbdbpofifimaaGreat
namespace Go.Proofs.YtngbdbpofifimaaGreat.Law9
open Go.RowKit Go.Sort Go.Proofs.YtngbdbpofifimaaGreat.ShaW Go.Proofs.YtngbdbpofifimaaGreat.Path Go.Proofs.YtngbdbpofifimaaGreat.Store
structure WmK where
 p:Wm
 len:p.key.length=32
 one:p.vv.oneCell'=true
instance:Inhabited WmK:=⟨⟨⟨List.replicate 32 0,false,.slice none 0 0,[]⟩,rfl,rfl⟩⟩
def FV (x:WmK):List Value:=x.p.cells.toList
theorem JK (x:WmK):(FV x).length=34:=by rw[FV,Array.length_toList];exact Wm.size x.len
theorem VT (x:WmK):∀v∈FV x,v.oneCell'=true:=fun v hv=>by
 unfold FV at hv;rw[Wm.list] at hv;rcases List.mem_append.1 hv with h|h
 · exact DJ _ v h
 simp at h;rcases h with rfl|rfl
 · rfl
 exact x.one
def Tw (x y:WmK):Int:=Lib.compareBytes x.p.key y.p.key
theorem ltW (x y:WmK):ltOf Tw x y=decide (Lib.compareBytes x.p.key y.p.key<0):=rfl
theorem bN:SWO (ltOf Tw) where
 irrefl x:=by rw[ltW,Hs];rfl
 trans x y z h1 h2:=by
  rw[ltW] at *;exact decide_eq_true (Gg _ _ _ (of_decide_eq_true h1) (of_decide_eq_true h2))
 ntrans x y z h1 h2:=by
  rw[ltW] at *;exact decide_eq_false (Et _ _ _ (of_decide_eq_false h1) (of_decide_eq_false h2))
theorem VX (x y:WmK) (W:World):Calls Tryz.prog 215 #[.agg (FV x).toArray,.agg (FV y).toArray] W fun e w'=>e=.returned (.int .i64 (Tw x y))∧∃q os,w'=grow (W.drewN q) os:=by
 obtain⟨A,hA⟩:∃A,A=x.p.cells:=⟨_,rfl⟩
 obtain⟨B,hB⟩:∃B,B=y.p.cells:=⟨_,rfl⟩
 have hc:=Iz x.p.key y.p.key x.len y.len ((W.alloc (.cells A 134)).alloc (.cells B 134));have ka:=Wm.BX x.len;have kb:=Wm.BX y.len;have sa:=Wm.size x.len;have sb:=Wm.size y.len;unfold FV Tw;rw[Array.toArray_toList,Array.toArray_toList];rw[←hA] at ka sa ⊢;rw[←hB] at kb sb ⊢;obtain⟨KA,hKA⟩:∃K,K=AK x.p.key:=⟨_,rfl⟩
 obtain⟨KB,hKB⟩:∃K,K=AK y.p.key:=⟨_,rfl⟩
 rw[←hKA] at ka hc;rw[←hKB] at kb hc;generalize Lib.compareBytes x.p.key y.p.key=r at hc ⊢;have g1:((W.alloc (.cells A 134)).alloc (.cells B 134)).heap[W.heap.size]?=some (.cells A 134 (0,0)):=AM (heap_alloc_new _ _) _
 have g2:((W.alloc (.cells A 134)).alloc (.cells B 134)).heap[W.heap.size+1]?=some (.cells B 134 (0,0)):=by
  have:=heap_alloc_new (W.alloc (.cells A 134)) (.cells B 134);simpa using this
 have G1:=Lib.hid g1;have G2:=Lib.hid g2;have HC:=Lib.hid hc;have HK:=(hIq ka kb)
 have HS:=(hIq sa sb)
 clear hA hB hKA hKB g1 g2 hc ka kb sa sb;go_enter Tryz.func215,Tryz.ntmps215
 go_wp2_with (first
  | fail
  | ((with_reducible show zOq (.load 47 _));refine AG rfl 47 _ rfl W.heap.size 0 rfl G1.out Tryz.underlying47 rfl AY (by rw[HS.out.1];omega) KA HK.out.1 ?_)
  | ((with_reducible show zOq (.load 47 _));refine AG rfl 47 _ rfl (W.heap.size+1) 0 rfl G2.out Tryz.underlying47 rfl AY (by rw[HS.out.2];omega) KB HK.out.2 ?_))
 refine HC.out.mono ?_;rintro e w1 ⟨rfl,q,os,rfl⟩;go_wp2;go_ret;refine⟨rfl,q, #[.cells A 134,.cells B 134]++os,?_⟩;rw[alloc_eq_grow,alloc_eq_grow,grow_grow,Lj,grow_grow];rfl
theorem Wa (blk off size:Nat) (w:World):CmpLays Tryz.prog 215 #[] FV 34 Tw blk off size w:=fun _ _ _ _ x y=>VX x y _
theorem S4 {w:World} {g:Nat} {t:TypeId} {cur:Array Value} {d:Array WmK} (hg:w.heap[g]?=some (.cells cur t (0,0))) (hx:∀i x,d[i]?=some x→i*34+34≤cur.size∧cur.extract (i*34) (i*34+34)=x.p.cells):HoldsK FV 34 w g 0 d:=by
 intro j hj;rw[size_flatK] at hj;have hi:j / 34<d.size:=by omega
 obtain⟨h1,h2⟩:=hx (j / 34) _ (Array.getElem?_eq_getElem hi);refine⟨?_,Al hg _⟩;rw[get_flatK FV 34 d j hj];have hm:j % 34<34:=Nat.mod_lt _ (by omega);have hs:=Wm.size (d[j / 34]).len
 have e1:cur[j]?=some (FV d[j / 34]!)[j % 34]!:=by
  have e2:(cur.extract (j / 34*34) (j / 34*34+34))[j % 34]?=cur[j]?:=by
   rw[Array.getElem?_extract,if_pos (by omega)]
   congr 1
   omega
  rw[←e2,h2,getElem!_pos d (j / 34) hi];unfold FV;rw[getElem!_pos _ _ (by rw[Array.length_toList,hs];exact hm),Array.getElem?_eq_getElem (by rw[hs];exact hm)];simp
 rw[Nat.zero_add];exact AH hg e1
theorem Sm {w:World} {g:Nat} {d:Array WmK} (h:HoldsK FV 34 w g 0 d) {i:Nat} {x:WmK} (hx:d[i]?=some x):CX w g (0+i*34) x.p.cells:=by
 have hi:=(Array.getElem?_eq_some_iff.1 hx).1;have hd:d[i]! = x:=by rw[getElem!_pos d i hi];exact(Array.getElem?_eq_some_iff.1 hx).2
 have:=CX.ID (w:=w) (g:=g) (o:=0+i*34) (m:=34) (cs:=FV x) (by omega) (JK x) (fun c hc=>by
  have h1:=h (i*34+c) (by rw[size_flatK];omega);rw[get_flatK FV 34 d _ (by omega),show(i*34+c) / 34=i by omega,show(i*34+c) % 34=c by omega,hd] at h1;rw[show 0+i*34+c=0+(i*34+c) by omega];rw[h1.1,List.getElem?_eq_getElem (by rw[JK];exact hc),getElem!_pos _ _ (by rw[JK];exact hc)];rfl)
 rwa [FV,Array.toArray_toList] at this
theorem QY (w:World) (g n:Nat) (d':Array WmK) (os:Array Obj):Ch (fun k=>k=g) w (sortWorldK FV 34 w g 0 n d' os):=by
 unfold sortWorldK grow putRowK Go.Sort.putRow Go.Sort.mapBlock Go.Sort.ahead;refine⟨rfl,rfl,rfl,by simp,fun k hk hn=>?_⟩;simp only[Array.getElem?_append,Array.size_modify,hk,if_true,Array.getElem?_modify];rw[if_neg (fun e=>hn e.symm)]
theorem Wh {w:World} {g cap:Nat} {d:Array WmK} (hH:HoldsK FV 34 w g 0 d) (hg:g<w.heap.size) (hn:d.size<4611686018427387904) :
 Calls Tryz.prog 214 #[.slice (some ⟨g,0,none⟩) d.size cap,.func (.func 215) #[] #[]] w fun e w'=>e=.returned (.tuple #[]) ∧
  ∃d':Array WmK,d'.size=d.size∧d'.toList.Perm d.toList∧d'.toList.Pairwise (fun x y=>¬Lib.compareBytes y.p.key x.p.key<0)∧HoldsK FV 34 w' g 0 d'∧Ch (fun k=>k=g) w w':=by
 have eg:∀args w,(callFunc 215 args).run Tryz.prog w=.ok (.enter 215 args) w:=enters_of Tryz.func215 (by kernel_rfl) rfl;have hcon:=AnyQ.slices_SortFunc WG 34 Tryz.isAgg134 Tryz.sizeOf134 FV JK VT Tw bN 215 #[] g 0 cap d w eg (Wa g 0 d.size w) hH hg hn;refine Calls.mono hcon fun e w' ⟨he,d',n,os,hp,hs,hw⟩=>⟨he,d',hp.1,?_,?_,?_,?_⟩
 · have:=hp.2.2
   rwa [show d'.extract 0 d.size=d' by rw[←hp.1,Array.extract_size],Array.extract_size] at this
 · rw[List.pairwise_iff_getElem]
   intro i j hi hj hij;have hi':i<d'.size:=by simpa using hi
   have hj':j<d'.size:=by simpa using hj
   have:=hs i j (Nat.zero_le _) hij (by rw[←hp.1];exact hj');rw[ltW,getElem!_pos d' i hi',getElem!_pos d' j hj'] at this;simpa using this
 · rw[hw]
   exact holdsK_sortWorldK_c FV 34 w g 0 d d' n os hH hg hp.1
 rw[hw];exact QY w g n d' os
end Go.Proofs.YtngbdbpofifimaaGreat.Law9
