/- Laws of the layers below. -/
import Derived.Test.YtngbdbpofifimaaGreatQm32
set_option maxHeartbeats 3200000
set_option maxRecDepth 100000
set_option linter.unusedVariables false
namespace Go.Proofs.YtngbdbpofifimaaGreat.Store
open Go.RowKit Go.Proofs.YtngbdbpofifimaaGreat.ShaW Go.Proofs.YtngbdbpofifimaaGreat.Path
section
variable {w0 w w' : World} {b : Nat} {σ : AG Nd} {F G : Nat→Prop}
theorem Uq (h:ROw w0 w b σ G) (GG:Good σ) (root:Int) (key:List UInt8) (hk:key.length=32) {vv:Value} {bs:List UInt8} (hb:Bytes w vv bs) (hl:bs.length≤1024) (hh:Az σ root=0) (hf:C9 σ 1=true)
 {l:List Int} {e1:Int} (ho:On (sk σ) key root 0 l e1) (hs:Dh σ key bs e1=false) (v:Value) :
 Calls Tryz.prog 224 #[.pointer (some ⟨b,0,none⟩),.int .i64 root,.agg (AS key),vv] w fun e w'=>e=.returned (.tuple #[.int .i64 (Fv σ root key bs v l e1).1,.int .i64 0])∧ROw w0 w' b (Fv σ root key bs v l e1).2 G∧But G w w':=by
 obtain⟨ao,cap,hvv,_⟩:=hb.form;obtain⟨K,hK⟩:∃K,K=AS key:=⟨_,rfl⟩
 have hKs:K.size=32:=by rw[hK,AU,hk]
 have a0:AN w (w.alloc (.cells K 47)):=(Ch.refl (fun _=>False) w).alloc _;have hw:=DO (h.adds a0) GG root ao bs.length cap hl;have hft:=fun w1 (a:AN w w1)=>Gg (h.adds a) GG 1
 have hwy:=fun w1 (a:AN w w1)=>OV (h.adds a) GG root key hk ho
 have hth:=fun w1 (a:AN w w1)=>J3 (h.adds a) GG e1 key hk (hb.Ae a (fun _ _ h=>h))
 have hll:l.length≤256:=by have:=ho.len GG.fit (by omega);omega
 have hrp:=TX GG hh;rw[hh] at hw;rw[hf] at hft;rw[hs, ←hK] at hth;rw[←hK] at hwy;rw[←hK];have HW:=Lib.hid hw;have HF:=Lib.hid hft;have HY:=Lib.hid hwy;have HT:=Lib.hid hth;have HK:=Lib.hid hKs;have HKK:=Lib.hid hK;have HB:=Lib.hid hb;have HO:=Lib.hid h;have HG:=Lib.hid GG;have HON:=Lib.hid ho;have A0:=Lib.hid a0;clear h a0 hl hw hh hft hf hwy hth hs hK hKs ho hb GG;subst hvv;go_enter Tryz.func224,Tryz.ntmps224;go_wp2_with fail;refine HW.out.mono ?_;rintro e w1 ⟨rfl,a1⟩;have k1:=a1.row (heap_alloc_new w (.cells K 47)) id;have A1:=(hIq (A0.out.trans a1 (fun _=>fEq)) k1)
 clear a1 k1;go_wp2_with fail;refine(HF.out _ A1.out.1).mono ?_;rintro e w2 ⟨rfl,a2⟩;have A2:=(hIq (A1.out.1.trans a2 (fun _=>fEq)) (a2.row A1.out.2 id))
 clear a2
 go_wp2_with (first
  | fail
  | ((with_reducible show zOq (.load 47 _));refine AJ rfl 47 _ rfl w.heap.size 0 rfl A2.out.2 Tryz.underlying47 rfl Ab (by rw[HK.out];omega) K (by simp[←HK.out]) ?_))
 refine(HY.out _ A2.out.1).mono ?_;rintro e w3 ⟨v3,rfl,o3,a3⟩;obtain⟨ao2,cap2,rfl⟩:=Am o3;have k2:=A2.out.2;have A3:=(hIq (A2.out.1.trans a3 (fun _=>fEq)) (aIq (a3.row A2.out.2 id) (aIq o3 A2.out.1)))
 clear a3 o3 k2
 go_wp2_with (first
  | fail
  | ((with_reducible show zOq (.load 47 _));refine AJ rfl 47 _ rfl w.heap.size 0 rfl A3.out.2.1 Tryz.underlying47 rfl Ab (by rw[HK.out];omega) K (by simp[←HK.out]) ?_))
 refine(HT.out _ A3.out.1).mono ?_;rintro e w4 ⟨rfl,a4⟩;have aw4:AN w w4:=A3.out.1.trans a4 (fun _=>fEq);have pa:Ep w.heap.size K ao2 cap2 l w4:=Ep.adds ⟨A3.out.2.1,(A3.out.2.2.1).base (fun _ _=>Nat.zero_le _)⟩ a4
 have o4:ROw w0 w4 b σ (Mw G w.heap.size ao2 l.length cap2):=HO.out.more aw4 (fun k hk=>by
  have z3:=Ad A3.out.2.1;have z4:=a4.size;rcases hk with hk|rfl|hk
  · exact .inl hk
  · exact .inr ⟨Nat.le_refl _,by omega⟩
  have h1:=A3.out.2.2.1.lt k hk;have h2:=A3.out.2.2.2.size;exact .inr ⟨by omega,by omega⟩)
 have H3:=(hIq pa (aIq aw4 o4))
 have lf:=o4.leaf HG.out key hk (HB.out.Ae aw4 (fun _ _ h=>h)) v;rw[←HKK.out] at lf;have HL:=Lib.hid lf;clear a4 aw4 pa o4 lf A0 A1 A2 A3 HW HF HY HT HO
 go_wp2_with (first
  | fail
  | ((with_reducible show zOq (.load 47 _));refine AJ rfl 47 _ rfl w.heap.size 0 rfl H3.out.1.1 Tryz.underlying47 rfl Ab (by rw[HK.out];omega) K (by simp[←HK.out]) ?_))
 refine HL.out.mono ?_;rintro e w5 ⟨rfl,o5,b5⟩;have H4:=(hIq (H3.out.1.but b5) (aIq o5 b5))
 obtain⟨n1,hn1⟩:∃x,x=(As σ key bs v).1:=⟨_,rfl⟩
 obtain⟨er1,her1⟩:∃x,x=(As σ key bs v).2.1:=⟨_,rfl⟩
 rw[←hn1, ←her1];have HN1:=Lib.hid hn1;have hgl:=HG.out.leaf key bs v hk;have HGL:=Lib.hid hgl;clear o5 b5 hn1 her1 HL hgl;have hnd:=Rg HG.out hk bs v HON.out;have hgl:=HGL.out;have hE0:=fun(ho:B7 σ key e1=false)=>PS (bs:=bs) ho v l.length
 have hE1:=fun(ho:B7 σ key e1=true)=>Nh (bs:=bs) ho v l.length
 have hoc:=fun(ho:B7 σ key e1=true)=>ES HG.out hk HON.out ho
 obtain⟨τ,hτ⟩:∃x,x=(As σ key bs v).2.2:=⟨_,rfl⟩
 rw[←HN1.out, ←hτ] at hE1 hE0;rw[←hτ] at H4 hnd hgl;have hkd:=fun w1 (a:AN w5 w1)=>(H4.out.2.1.adds a).kind hgl e1
 rw[hnd] at hkd;have hky:=fun w1 (a:AN w5 w1) (hk1:(nd σ e1).kind=1)=>(H4.out.2.1.adds a).MB hgl (n:=e1) (by rw[hnd];exact hk1)
 rw[hnd] at hky
 have hkl:=fun(hk1:(nd σ e1).kind=1)=>(show(nd σ e1).key.length=32 by
  cases hx:σ.get? e1 with
  | none=>rw[B9 hx] at hk1;exact absurd (show(0:Nat)=1 from hk1) (by decide)
  | some x=>rw[Ap hx];exact(HG.out.fit.all _ _ (Bl hx)).key)
 obtain⟨K2,hK2⟩:∃K2,K2=AS (nd σ e1).key:=⟨_,rfl⟩
 have hneq:=fun(hk1:(nd σ e1).kind=1)=>Hy 47 Tryz.underlying47 (nd σ e1).key key (hkl hk1) hk
 have hcm:=fun(hk1:(nd σ e1).kind=1) w1=>G3 key (nd σ e1).key hk (hkl hk1) w1
 rw[←hK2] at hky hneq hcm;rw[←HKK.out] at hneq hcm;obtain⟨ot,hot⟩:∃x,x=B7 σ key e1:=⟨_,rfl⟩
 have HOT:=Lib.hid hot;have HKY:=Lib.hid hky;have HEC:=(hIq hE0 (aIq hE1 (aIq hoc hcm)))
 have HGT:=Lib.hid hgl;clear hE0 hE1 hoc hcm hgl hnd hky hot hτ hkl hK2;go_upto_if 59 with fail;go_cut [59] (fun s59 wx=>s59=.bool ot∧Ep w.heap.size K ao2 cap2 l wx∧AN w5 wx)
 case first =>
  by_cases hk1:(nd σ e1).kind=1
  · have hneq:=hneq hk1
    have hky:=fun w1 a=>HKY.out w1 a hk1
    rw[hk1] at hkd;have HKD:=Lib.hid hkd;have HKYe:=Lib.hid hky;have hot:ot = !decide ((nd σ e1).key=key):=by rw[HOT.out];unfold B7;rw[hk1];simp
    have e1':(((1:Nat):Int) == 1)=true:=rfl;obtain⟨ek,hek⟩:∃x,x=decide ((nd σ e1).key=key):=⟨_,rfl⟩
    rw[←hek] at hneq hot;have HQ:=Lib.hid hneq;have HO1:=Lib.hid hot;clear hot hek hneq hky hkd hk1;go_wp2;refine AP (fun wz=>Ep w.heap.size K ao2 cap2 l wz) 11 [(0,false),(1,false),(2,true),(3,false),(4,false),(5,false),(6,false),(8,false),(7,true),(9,false),(10,false)] (by kernel_rfl) (by kernel_rfl) ?_ ?_
    · exact H4.out.1.adds (Ch.refl _ _).drew
    iterate 2
     iterate 1 refine plan_look rfl rfl (fun w0 hS=>(by go_simp;try rfl)) ?_
     simp only[Act.put,nAq,nBq,nCq]
    refine AW rfl ?_;go_wp2_with fail;refine(HKD.out _ (Ch.refl _ _).drew).mono ?_;rintro e w6 ⟨rfl,a6⟩;have a6':AN w5 w6:=((Ch.refl _ _).drew).trans a6 (fun _=>fEq);have H6:=(hIq (H4.out.1.adds a6') a6')
    clear a6 a6';dsimp only;go_step;refine wpList_nil ?_;change _∧_;refine⟨H6.out.1,?_⟩
    iterate 4
     refine plan_look rfl rfl (fun w0 hS=>(by clear hS;go_simp;try rfl)) ?_;simp only[Act.put,nAq,nBq,nCq]
    refine Ay (cur:=K) (t:=47) (fr:=(0,0)) rfl rfl 47 (.tmp 6) rfl w.heap.size 0 32 rfl (fun w0 hS=>hS.1) Tryz.underlying47 rfl Ab (by rw[HK.out];omega) K (by simp[←HK.out]) ?_;simp only[Act.put,nAq,nBq,nCq];refine AW rfl ?_;go_wp2_with fail;refine(HKYe.out _ H6.out.2).mono ?_;rintro e w7 ⟨rfl,a7⟩;have a7':AN w5 w7:=H6.out.2.trans a7 (fun _=>fEq);have H7:=(hIq (H4.out.1.adds a7') a7')
    clear a7 a7' H6;dsimp only;go_step;refine wpList_nil ?_;change _∧_;refine⟨H7.out.1,?_⟩;refine plan_look (v:=.bool (!ek)) rfl rfl (fun w0 hS=>(by have hq:=HQ.out w0;rw[run_neq_struct] at hq;clear hS;go_simp)) ?_;simp only[Act.put,nAq,nBq,nCq];refine plan_look (v:=.bool (!ek)) rfl rfl (fun w0 hS=>(by clear hS;go_simp;try rfl)) ?_;simp only[Act.put,nAq,nBq,nCq];refine AZ ?_;simp only[List.drop_succ_cons,List.drop_zero];go_wp2;refine NoPanic.normal ?_;go_wp2;go_meet;exact⟨by rw[HO1.out],H7.out.1,H7.out.2⟩
  have hot:ot=false:=by
   rw[HOT.out];unfold B7;rw[decide_eq_false hk1,Bool.false_and]
  obtain⟨kd,hkd'⟩:∃x,x=(nd σ e1).kind:=⟨_,rfl⟩
  rw[←hkd'] at hkd hk1;have HKD:=Lib.hid hkd;have HO1:=Lib.hid hot;have e1':((kd:Int) == 1)=false:=by simpa using (show ¬(kd:Int)=1 by omega)
  have e2':decide ((kd:Int)=1)=false:=decide_eq_false (by omega);clear hot hkd hk1 hkd' hneq;go_wp2;refine AP (fun wz=>Ep w.heap.size K ao2 cap2 l wz) 11 [(0,false),(1,false),(2,true),(3,false),(4,false),(5,false),(6,false),(7,false),(8,false),(9,false),(10,false)] (by kernel_rfl) (by kernel_rfl) ?_ ?_
  · exact H4.out.1.adds (Ch.refl _ _).drew
  iterate 2
   iterate 1 refine plan_look rfl rfl (fun w0 hS=>(by go_simp;try rfl)) ?_
   simp only[Act.put,nAq,nBq,nCq]
  refine AW rfl ?_;go_wp2_with fail;refine(HKD.out _ (Ch.refl _ _).drew).mono ?_;rintro e w6 ⟨rfl,a6⟩;have a6':AN w5 w6:=((Ch.refl _ _).drew).trans a6 (fun _=>fEq);have H6:=(hIq (H4.out.1.adds a6') a6')
  clear a6 a6';dsimp only;go_step;refine wpList_nil ?_;change _∧_;refine⟨H6.out.1,?_⟩
  iterate 2
   refine plan_look (v:=.bool false) rfl rfl (fun w0 hS=>(by clear hS;go_simp;try rfl)) ?_;simp only[Act.put,nAq,nBq,nCq]
  iterate 5
   refine BN rfl (by rfl) ?_;simp only[Act.put,nAq,nBq,nCq]
  refine plan_look (v:=.bool false) rfl rfl (fun w0 hS=>(by clear hS;go_simp;try rfl)) ?_;simp only[Act.put,nAq,nBq,nCq];refine AZ ?_;simp only[List.drop_succ_cons,List.drop_zero];go_wp2;refine NoPanic.normal ?_;go_wp2;go_meet;exact⟨by rw[HO1.out],H6.out.1,H6.out.2⟩
 case rest =>
 obtain⟨rfl,hW1,hW2⟩:=hcut;have hW:=(hIq hW1 hW2)
 clear hW1 hW2 hkd hneq;go_upto_if 59 with fail;go_cut [13] (fun s13 wx=>s13=.int .i64 (Eu σ key bs v l.length e1).1∧ROw w0 wx b (Eu σ key bs v l.length e1).2 (Mw G w.heap.size ao2 l.length cap2)∧But (Mw G w.heap.size ao2 l.length cap2) w4 wx)
 case first =>
  cases ot with
  | false =>
   have hE:=HEC.out.1 HOT.out.symm;have HE:=Lib.hid hE;clear hE;go_wp2_with fail;go_meet;exact⟨by rw[HE.out],by rw[HE.out];exact H4.out.2.1.adds hW.out.2,H4.out.2.2.then (AN.but hW.out.2)⟩
  | true =>
   have hk1:=(Eb HOT.out.symm).1;obtain⟨hcl,hc256,_⟩:=HEC.out.2.2.1 HOT.out.symm;have hE:=HEC.out.2.1 HOT.out.symm;have hcm:=HEC.out.2.2.2 hk1;have hky:=fun w1 a=>HKY.out w1 a hk1
   have HKYe:=Lib.hid hky;obtain⟨c,hc⟩:∃x,x=common key (nd σ e1).key:=⟨_,rfl⟩
   rw[←hc] at hcl hc256 hcm hE;have HE:=Lib.hid hE;have HC:=Lib.hid hcm;have HCB:=(hIq hcl hc256)
   clear hE hcm hky hk1 hc hcl;go_wp2_with fail;refine AP (fun wz=>Ep w.heap.size K ao2 cap2 l wz) 5 [(0,false),(1,false),(2,false),(3,true),(4,true)] (by kernel_rfl) (by kernel_rfl) ?_ ?_
   · exact hW.out.1.adds (Ch.refl _ _).drew
   refine Aa (cur:=K) (t:=47) (fr:=(0,0)) rfl rfl 47 (.tmp 6) rfl w.heap.size 0 32 rfl (fun w0 hS=>hS.1) Tryz.underlying47 rfl Ab (by rw[HK.out];omega) K (by simp[←HK.out]) ?_;simp only[Act.put,nAq,nBq,nCq]
   iterate 2
    iterate 1 refine plan_look rfl rfl (fun w0 hS=>(by go_simp;try rfl)) ?_
    simp only[Act.put,nAq,nBq,nCq]
   refine AW rfl ?_;go_wp2_with fail;refine(HKYe.out _ hW.out.2.drew).mono ?_;rintro e w8 ⟨rfl,a8⟩;have a8':AN w5 w8:=hW.out.2.drew.trans a8 (fun _=>fEq);have H8:=(hIq (H4.out.1.adds a8') a8')
   clear a8 a8';dsimp only;go_step;refine wpList_nil ?_;change _∧_;refine⟨H8.out.1,?_⟩;refine AW rfl ?_;go_wp2_with fail;refine(HC.out _).mono ?_;rintro e w9 ⟨rfl,a9⟩;have a9':AN w5 w9:=H8.out.2.trans a9 (fun _=>fEq);have H9:=(hIq (H4.out.1.adds a9') (aIq (H4.out.2.1.adds a9') (H4.out.2.2.then (AN.but a9'))))
   clear a9 a9' H8;dsimp only;go_step;refine wpList_nil ?_;change _∧_;refine⟨H9.out.1,?_⟩;refine AZ ?_;simp only[List.drop_succ_cons,List.drop_zero];go_wp2;refine NoPanic.normal ?_;go_wp2_with fail;refine(H9.out.2.1.hold HGT.out e1).mono ?_;rintro e w10 ⟨rfl,o10,b10⟩;have H10:=(hIq (H9.out.1.but b10) (aIq o10 (H9.out.2.2.then b10)))
   clear o10 b10 H9;have hgh:=HGT.out.hold e1;have hj:=Jg H10.out.2.1 hgh (c:Nat) key hk n1 e1;have hgj:=Good.join hgh key (c:Nat) n1 e1;rw[←HKK.out] at hj;have HJ:=Lib.hid hj;have HGJ:=Lib.hid hgj;clear hj hgh hgj
   go_wp2_with (first
    | fail
    | ((with_reducible show zOq (.load 47 _));refine AJ rfl 47 _ rfl w.heap.size 0 rfl H10.out.1.1 Tryz.underlying47 rfl Ab (by rw[HK.out];omega) K (by simp[←HK.out]) ?_))
   refine HJ.out.mono ?_;rintro e w11 ⟨rfl,o11,b11⟩;have H11:=(hIq (H10.out.1.but b11) (aIq o11 (H10.out.2.2.then b11)))
   clear o11 b11 H10 HJ;obtain⟨n2,hn2⟩:∃x,x=(CY (Au τ e1).2 key (c:Nat) n1 e1).1:=⟨_,rfl⟩
   obtain⟨τ2,hτ2⟩:∃x,x=(CY (Au τ e1).2 key (c:Nat) n1 e1).2.2:=⟨_,rfl⟩
   rw[←hn2];have hE:=HE.out;rw[←hn2, ←hτ2] at hE;rw[←hτ2] at H11 HGJ;have HE2:=Lib.hid hE;have hc1:=HCB.out.1;have hc2:=HCB.out.2;clear hE hn2 hτ2 HE;go_wp2_with fail
   go_loopg [13,16] (c-l.length) (fun g s13 s16 wr=>∃(τ':AG Nd) (now x:Int),s13=.int .i64 now∧s16=.int .i64 x∧x=(l.length:Int)+g-1∧g≤256∧Eu σ key bs v l.length e1=chainS key l.length g τ' now∧Good τ' ∧
    ROw w0 wr b τ' (Mw G w.heap.size ao2 l.length cap2)∧But (Mw G w.heap.size ao2 l.length cap2) w4 wr)
   case atStart=>exact⟨τ2,n2,_,rfl,rfl,by omega,by omega,HE2.out,HGJ.out,H11.out.2.1,H11.out.2.2⟩
   obtain⟨τ',now,x,rfl,rfl,hx,hg,hch,hgt,hO,hB⟩:=hrel;have HP:=Lib.hid (H3.out.1.but hB);have HOB:=(hIq hO hB)
   have HCH:=Lib.hid hch;have HGG:=Lib.hid hgt;clear hO hB hch hgt;rcases Nat.eq_zero_or_pos gk with h0|h0
   · subst h0
     have hx1:decide ((l.length:Int)≤x)=false:=decide_eq_false (by omega);clear hx;go_wp2_with fail;go_meet;exact⟨by rw[HCH.out];rfl,by rw[HCH.out];exact HOB.out.1,HOB.out.2⟩
   obtain⟨j,rfl⟩:∃j,gk=j+1:=⟨gk-1,by omega⟩
   have hx1:decide ((l.length:Int)≤x)=true:=decide_eq_true (by omega);have hjj:=Jg HOB.out.1 HGG.out (l.length+j:Nat) key hk now 0;have hgj:=Good.join HGG.out key (l.length+j:Nat) now 0;have hxe:((l.length+j:Nat):Int)=x:=by omega
   rw[←HKK.out,hxe] at hjj;rw[hxe] at hgj;have HJ:=Lib.hid hjj;have HGJ2:=Lib.hid hgj;have HX:=(hIq hx hxe)
   have hxl:0≤x∧x≤600:=by omega
   obtain⟨hx0,hx6⟩:=hxl;clear hjj hx hxe hgj
   go_wp2_with (first
    | fail
    | ((with_reducible show zOq (.load 47 _));refine AJ rfl 47 _ rfl w.heap.size 0 rfl HP.out.1 Tryz.underlying47 rfl Ab (by rw[HK.out];omega) K (by simp[←HK.out]) ?_))
   refine HJ.out.mono ?_;rintro e w12 ⟨rfl,o12,b12⟩;have H12:=(hIq o12 (HOB.out.2.then b12))
   clear o12 b12;have hch:=HCH.out;rw[show chainS key l.length (j+1) τ' now=chainS key l.length j (CY τ' key (l.length+j:Nat) now 0).2.2 (CY τ' key (l.length+j:Nat) now 0).1 from rfl,HX.out.2] at hch;have HCH2:=Lib.hid hch;clear hch;go_wp2_with fail;go_roundg j
   case measure=>omega
   exact⟨_,_,_,rfl,rfl,by have:=HX.out.1;omega,by omega,HCH2.out,HGJ2.out,H12.out.1,H12.out.2⟩
 obtain⟨rfl,hO,hB⟩:=hcut;obtain⟨n3,hn3⟩:∃x,x=(Eu σ key bs v l.length e1).1:=⟨_,rfl⟩
 obtain⟨τ3,hτ3⟩:∃x,x=(Eu σ key bs v l.length e1).2:=⟨_,rfl⟩
 have hg3:Good τ3:=by rw[hτ3];exact HG.out.ended hk bs v l.length e1
 rw[←hn3];rw[←hτ3] at hO;have hmade:E9 σ key bs v l e1=upL key 0 (l.drop 0) τ3 n3:=by rw[hn3,hτ3];rfl
 have HM:=Lib.hid hmade;have HG3:=Lib.hid hg3;have HOB:=(hIq hO hB)
 clear hmade hn3 hτ3 hO hB H4 HN1 hg3;go_wp2_with fail
 go_loopg [13,17,18] l.length (fun g s13 s17 s18 wr=>∃x:Int,s13=.int .i64 (upL key g (l.drop g) τ3 n3).1∧s17=.int .i64 x∧x=(g:Int)-1∧g≤l.length ∧
  ROw w0 wr b (upL key g (l.drop g) τ3 n3).2 (Mw G w.heap.size ao2 l.length cap2)∧But (Mw G w.heap.size ao2 l.length cap2) w4 wr)
 case atStart=>exact⟨_,by rw[List.drop_length];rfl,rfl,rfl,Nat.le_refl _,by rw[List.drop_length];exact HOB.out.1,HOB.out.2⟩
 obtain⟨x,hs13,rfl,hx,hg,hO,hB⟩:=hrel;have HP:=Lib.hid (H3.out.1.but hB);rcases Nat.eq_zero_or_pos gk with h0|h0
 · subst h0
   have hx1:decide ((0:Int)≤x)=false:=decide_eq_false (by omega);clear hx;rw[←HM.out] at hs13 hO;have hg4:Good (E9 σ key bs v l e1).2:=HG.out.made hk bs v l e1;obtain⟨n4,hn4⟩:∃x,x=(E9 σ key bs v l e1).1:=⟨_,rfl⟩
   obtain⟨τ4,hτ4⟩:∃x,x=(E9 σ key bs v l e1).2:=⟨_,rfl⟩
   rw[←hn4] at hs13;rw[←hτ4] at hO hg4;subst hs13;have HX:=(hIq hn4 hτ4)
   have HO4:=(hIq hO hB)
   have HG4:=Lib.hid hg4;clear hn4 hτ4 hO hB HOB HM hg4;by_cases hr0:root=0
   · have e1':decide (0<root)=false:=decide_eq_false (by omega)
     clear hrp;go_wp2_with fail;go_ret2;refine⟨?_,?_,?_⟩
     · unfold Fv
       rw[←HX.out.1];rfl
     · unfold Fv
       simp only;rw[if_neg (by simpa using hr0), ←HX.out.2];exact HO4.out.1.less (fun k hk=>.inl hk)
     exact(AN.but H3.out.2.1).then (HO4.out.2.less (fun k hk=>.inl hk))
   have e1':decide (0<root)=true:=decide_eq_true (by omega);clear hrp;go_wp2_with fail;refine(HO4.out.1.drop HG4.out root).mono ?_;rintro e w9 ⟨rfl,o9,b9⟩;have H9:=(hIq o9 (HO4.out.2.then b9))
   clear o9 b9;go_wp2_with fail;go_ret2;refine⟨?_,?_,?_⟩
   · unfold Fv
     rw[←HX.out.1];rfl
   · unfold Fv
     simp only;rw[if_pos hr0, ←HX.out.2];exact H9.out.1.less (fun k hk=>.inl hk)
   exact(AN.but H3.out.2.1).then (H9.out.2.less (fun k hk=>.inl hk))
 obtain⟨j,rfl⟩:∃j,gk=j+1:=⟨gk-1,by omega⟩
 have hxe:x=(j:Int):=by omega
 subst hxe;have hlt:j<l.length:=by omega
 have hlti:(j:Int)<(l.length:Int):=by omega
 obtain⟨h1,hget⟩:∃h1,l[j]?=some h1:=⟨_,List.getElem?_eq_getElem hlt⟩
 have hU:=Nx key l τ3 n3 hget;have hgu:Good (upL key (j+1) (l.drop (j+1)) τ3 n3).2:=Good.up _ _ HG3.out n3;obtain⟨now,hnow⟩:∃x,x=(upL key (j+1) (l.drop (j+1)) τ3 n3).1:=⟨_,rfl⟩
 obtain⟨τ',hτ'⟩:∃x,x=(upL key (j+1) (l.drop (j+1)) τ3 n3).2:=⟨_,rfl⟩
 rw[←hnow] at hs13 hU;rw[←hτ'] at hO hU hgu;subst hs13
 obtain⟨g0,hao⟩:∃g0,ao2=some ⟨g0,0,none⟩:=by
  obtain⟨_,h|⟨g0,cap',cur,h,_⟩⟩:=HP.out.2
  · exact absurd h.2 (by omega)
  injection h with h _ _;exact⟨g0,h⟩
 subst hao
 have hcell:∀wz,Ep w.heap.size K (some ⟨g0,0,none⟩) cap2 l wz→wz.cell? ⟨g0,j,none⟩=some (.int .i64 h1):=fun wz hz=>by
  rw[hz.2.cellAt j (by omega)];unfold Store.hl;rw[List.getElem?_map,hget];rfl
 have hot:=fun w1 (a:AN wr w1)=>RG (hO.adds a) hgu h1 j key hk
 have hop:=PN hgu key h1 j;unfold NU at hU;obtain⟨o,hob⟩:∃x,x=DB τ' key h1 j:=⟨_,rfl⟩
 rw[←hob] at hot hU hop;rw[←HKK.out] at hot;have HOT:=Lib.hid hot;have HU:=Lib.hid hU;have HGU:=Lib.hid hgu;have HCL:=Lib.hid hcell;have HOB':=(hIq hO hB)
 have hjl:(j:Int)≤256:=by omega
 clear hot hU hO hB hnow hτ' hob hget hx HOB HM hg h0 hgu hcell hrp;go_wp2;refine AP (fun wz=>Ep w.heap.size K (some ⟨g0,0,none⟩) cap2 l wz) 8 [(0,false),(1,false),(2,false),(3,false),(4,false),(5,false),(6,false),(7,true)] (by kernel_rfl) (by kernel_rfl) ?_ ?_
 · exact HP.out.adds (Ch.refl _ _).drew
 iterate 1 refine plan_look rfl rfl (fun w0 hS=>(by go_simp;try rfl)) ?_
 simp only[Act.put,nAq,nBq,nCq];refine Aa (cur:=K) (t:=47) (fr:=(0,0)) rfl rfl 47 (.tmp 6) rfl w.heap.size 0 32 rfl (fun w0 hS=>hS.1) Tryz.underlying47 rfl Ab (by rw[HK.out];omega) K (by simp[←HK.out]) ?_;simp only[Act.put,nAq,nBq,nCq]
 iterate 4
  refine plan_look rfl rfl (fun w0 hS=>(by clear hS;go_simp;try rfl)) ?_;simp only[Act.put,nAq,nBq,nCq]
 refine plan_look (v:=.int .i64 h1) rfl rfl (fun w0 hS=>(by have c1:=HCL.out w0 hS;clear hS;go_simp;try rfl)) ?_;simp only[Act.put,nAq,nBq,nCq];refine AW rfl ?_;go_wp2_with fail;refine(HOT.out _ (Ch.refl _ _).drew).mono ?_;rintro e w5 ⟨rfl,a5⟩;have a5':AN wr w5:=((Ch.refl _ _).drew).trans a5 (fun _=>fEq);have H5:=(hIq (HP.out.adds a5') (aIq (HOB'.out.1.adds a5') (HOB'.out.2.then (AN.but a5'))))
 clear a5 a5';dsimp only;go_step;refine wpList_nil ?_;change _∧_;refine⟨H5.out.1,?_⟩;refine AZ ?_;simp only[List.drop_succ_cons,List.drop_zero];go_wp2;refine NoPanic.normal ?_;by_cases hz:o=0
 · have hU:=HU.out
   have eo:decide (0<o)=false:=decide_eq_false (by omega);have ehs:Bt τ' o=τ':=by unfold Bt;rw[if_neg (by simpa using hz)]
   rw[ehs] at hU;have HU2:=Lib.hid hU;have hjj:=Jg H5.out.2.1 HGU.out (j:Nat) key hk now o;rw[←HKK.out] at hjj;have HJ:=Lib.hid hjj;clear hjj ehs hU hz hop
   go_wp2_with (first
    | fail
    | ((with_reducible show zOq (.load 47 _));refine AJ rfl 47 _ rfl w.heap.size 0 rfl H5.out.1.1 Tryz.underlying47 rfl Ab (by rw[HK.out];omega) K (by simp[←HK.out]) ?_))
   refine HJ.out.mono ?_;rintro e w9 ⟨rfl,o9,b9⟩;have H9:=(hIq o9 (H5.out.2.2.then b9))
   clear o9 b9;go_wp2_with fail;go_roundg j
   case measure=>omega
   exact⟨_,by rw[HU2.out],rfl,rfl,by omega,by rw[HU2.out];exact H9.out.1,H9.out.2⟩
 have hU:=HU.out;have eo:decide (0<o)=true:=decide_eq_true (by omega);have ehs:Bt τ' o=(Au τ' o).2:=by unfold Bt;rw[if_pos hz]
 rw[ehs] at hU;have HU2:=Lib.hid hU;clear ehs hU hz hop;go_wp2_with fail;refine(H5.out.2.1.hold HGU.out o).mono ?_;rintro e w7 ⟨rfl,o7,b7⟩;have H7:=(hIq (H5.out.1.but b7) (aIq o7 (H5.out.2.2.then b7)))
 clear o7 b7;have hjj:=Jg H7.out.2.1 (HGU.out.hold o) (j:Nat) key hk now o;rw[←HKK.out] at hjj;have HJ:=Lib.hid hjj;clear hjj
 go_wp2_with (first
  | fail
  | ((with_reducible show zOq (.load 47 _));refine AJ rfl 47 _ rfl w.heap.size 0 rfl H7.out.1.1 Tryz.underlying47 rfl Ab (by rw[HK.out];omega) K (by simp[←HK.out]) ?_))
 refine HJ.out.mono ?_;rintro e w9 ⟨rfl,o9,b9⟩;have H9:=(hIq o9 (H7.out.2.2.then b9))
 clear o9 b9;go_wp2_with fail;go_roundg j
 case measure=>omega
 exact⟨_,by rw[HU2.out],rfl,rfl,by omega,by rw[HU2.out];exact H9.out.1,H9.out.2⟩
end
end Go.Proofs.YtngbdbpofifimaaGreat.Store
