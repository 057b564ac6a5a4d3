/- Laws of the layers below. -/
import Derived.Test.YtngbdbpofifimaaGreatQl34
set_option maxHeartbeats 3200000
set_option maxRecDepth 100000
set_option linter.unusedVariables false
namespace Go.Proofs.YtngbdbpofifimaaGreat.Store
open Go.RowKit Go.Proofs.YtngbdbpofifimaaGreat.ShaW Go.Proofs.YtngbdbpofifimaaGreat.Path
section
variable {w0 w : World} {s : Nat} {σ : AD Nd} {F G : Nat→Prop}
theorem Iy (σ:AD Nd) (key:List UInt8) (l:List Int):∀(m:Nat) (st:Int), -1≤(BO σ key l m st).2.1∧(BO σ key l m st).2.1<m∧((BO σ key l m st).2.2=true→0≤(BO σ key l m st).2.1)
 | 0,st=>by unfold BO;simp
 | m+1,st=>by
  unfold BO;split
  · obtain⟨a,b,c⟩:=Iy σ key l m st
    exact⟨a,by omega,c⟩
  split
  · exact⟨by simp only;omega,by simp only;omega,fun h=>by cases h⟩
  split
  · obtain⟨a,b,c⟩:=Iy σ key l m (Bg σ key (l.getD m 0) m)
    exact⟨a,by omega,c⟩
  exact⟨by simp only;omega,by simp only;omega,fun _=>by simp only;omega⟩
theorem Me (k:List UInt8):∀(l:List Int) (d:Nat) (σ:AD Nd) (now h:Int),upL k d (l ++ [h]) σ now=upL k d l (Hp σ k h (d+l.length) now).2 (Hp σ k h (d+l.length) now).1
 | [],d,σ,now,h=>rfl
 | x::l,d,σ,now,h=>by
  show Hp (upL k (d+1) (l ++ [h]) σ now).2 k x d (upL k (d+1) (l ++ [h]) σ now).1=_
  rw[Me k l (d+1) σ now h,show d+1+l.length=d+(x::l).length by simp only[List.length_cons];omega];rfl
noncomputable def Jk (σ:AD Nd) (key:List UInt8) (l:List Int):Int×AD Nd :=
 let L:=BO σ key l l.length 0
 if L.2.2=true then upL key 0 (l.take L.2.1.toNat) (CU (Aq σ L.1) key L.2.1 0 L.1).2.2 (CU (Aq σ L.1) key L.2.1 0 L.1).1
 else upL key 0 (l.take (L.2.1+1).toNat) (Aq σ L.1) L.1
noncomputable def ZL (σ:AD Nd) (root:Int) (key:List UInt8) (l:List Int):Int×AD Nd:=((Jk σ key l).1,(An (Jk σ key l).2 root).2.2)
theorem TO (h:At w s F σ) (root:Int) (K:Array Value) (hh:De σ root=0) (hf:Cw σ 1=false) :
 Calls Tryz.prog 61 #[.pointer (some ⟨s,0,none⟩),.int .i64 root,.agg K] w fun e w'=>e=.returned (.tuple #[.int .i64 0,.bool false,.int .i64 9])∧Adds w w':=by
 have a0:Adds w (w.alloc (.cells K 47)):=(Ch.refl (fun _=>False) w).alloc _;have ha:=EV (h.adds a0) root;have hft:=fun w1 (a:Adds w w1)=>G8 (h.adds a) 1
 rw[hh] at ha;rw[hf] at hft;have HA:=Lib.hid ha;have A0:=Lib.hid a0;have HF:=Lib.hid hft;clear h ha a0 hft hf hh;go_enter Tryz.func61,Tryz.ntmps61;go_wp2_with fail;refine HA.out.mono ?_;rintro e w1 ⟨rfl,a1⟩;have A1:=Lib.hid (A0.out.trans a1 (fun _=>fEq));clear a1;go_wp2_with fail;refine(HF.out _ A1.out).mono ?_;rintro e w2 ⟨rfl,rfl⟩;go_wp2;go_ret3;exact⟨rfl,A1.out⟩
def Gv (b0 pb:Nat) (K:Array Value) (ao:Option Addr) (cap:Nat) (l:List Int) (th:Bool) (st fr:Int) (an:Bool) (w:World):Prop :=
 w.heap[pb]?=some (.cells #[.slice ao l.length cap,.bool th,.int .i64 st,.int .i64 fr,.bool an] 230 (0,0)) ∧
 w.heap[b0]?=some (.cells K 47 (0,0))∧w.ownsRow 0 3 1 (.slice ao l.length cap) l.length (hl l)
theorem Gv.but {b0 pb cap:Nat} {K:Array Value} {ao:Option Addr} {l:List Int} {th an:Bool} {st fr:Int} {w w':World} (h:Gv b0 pb K ao cap l th st fr an w) (c:But (Ij G b0 pb ao l.length cap) w w'):Gv b0 pb K ao cap l th st fr an w' :=
 ⟨c.row h.1 (.inr (.inr (.inl rfl))),c.row h.2.1 (.inr (.inl rfl)),Ch.owns c h.2.2 (fun k hk hn=>hn (.inr (.inr (.inr hk))))⟩
theorem Gv.adds {b0 pb cap:Nat} {K:Array Value} {ao:Option Addr} {l:List Int} {th an:Bool} {st fr:Int} {w w':World} (h:Gv b0 pb K ao cap l th st fr an w) (c:Adds w w'):Gv b0 pb K ao cap l th st fr an w' :=
 ⟨c.row h.1 id,c.row h.2.1 id,c.owns h.2.2 (fun _ _ h=>h)⟩
theorem Yd (hAt:At w s F σ) (GG:Good σ) (root:Int) (key:List UInt8) (hk:key.length=32) (hh:De σ root=0) (hf:Cw σ 1=true)
 {l:List Int} {e1:Int} (ho:On (sk σ) key root 0 l e1) (hs:Az σ key e1=false) :
 Calls Tryz.prog 61 #[.pointer (some ⟨s,0,none⟩),.int .i64 root,.agg (AK key)] w fun e w'=>e=.returned (.tuple #[.int .i64 root,.bool false,.int .i64 0])∧Adds w w':=by
 obtain⟨K,hK⟩:∃K,K=AK key:=⟨_,rfl⟩
 have hKs:K.size=32:=by rw[hK,AN,hk]
 have a0:Adds w (w.alloc (.cells K 47)):=(Ch.refl (fun _=>False) w).alloc _;have ha:=EV (hAt.adds a0) root;have hft:=fun w1 (a:Adds w w1)=>G8 (hAt.adds a) 1
 have hlk:=fun w1 (a:Adds w w1)=>look_ok (hAt.adds a) GG root key hk (CI hh) ho
 rw[hh] at ha;rw[hf] at hft;rw[hs, ←hK] at hlk;rw[←hK];obtain⟨st,fr,an,hL⟩:∃st fr an,BO σ key l l.length 0=(st,fr,an):=⟨_,_,_,rfl⟩
 rw[hL] at hlk;have HA:=Lib.hid ha;have A0:=Lib.hid a0;have HF:=Lib.hid hft;have HLK:=Lib.hid hlk;have HK:=Lib.hid hKs;clear hK ha a0 hft hf hh hlk hs ho GG hKs hL hAt;go_enter Tryz.func61,Tryz.ntmps61;go_wp2_with fail;refine HA.out.mono ?_;rintro e w1 ⟨rfl,a1⟩;have A1:=Lib.hid (A0.out.trans a1 (fun _=>fEq));have K1:=Lib.hid (a1.row (heap_alloc_new w (.cells K 47)) id);clear a1;go_wp2_with fail;refine(HF.out _ A1.out).mono ?_;rintro e w2 ⟨rfl,rfl⟩
 go_wp2_with (first
  | fail
  | ((with_reducible show zOq (.load 47 _));refine AG rfl 47 _ rfl w.heap.size 0 rfl K1.out Tryz.underlying47 rfl AY (by rw[HK.out];omega) K (by simp[←HK.out]) ?_))
 refine(HLK.out _ A1.out).mono ?_;rintro e w2 ⟨v,rfl,o2,a2⟩;obtain⟨ao2,cap2,rfl⟩:=Aj o2;go_wp2_with fail;go_ret3;refine⟨rfl,?_⟩;have hb2:=A1.out.trans a2 (fun _=>fEq);have hsz:=hb2.size
 (repeat (first|with_reducible exact hb2|with_reducible exact Ch.refl _ _|with_reducible refine Ch.drew ?_|with_reducible refine Ch.drewN ?_ _|with_reducible refine Ch.alloc ?_ _|with_reducible refine Ch.setCell ?_ (by first|exact .inr (by simp<;>omega)|(left;simp;done)) _|with_reducible refine Ch.setRow ?_ (by first|exact .inr (by simp<;>omega)|(left;simp;done)) _))
theorem Uy (h:Ow w0 w s σ G) (GG:Good σ) (root:Int) (key:List UInt8) (hk:key.length=32) (hh:De σ root=0) (hf:Cw σ 1=true)
 {l:List Int} {e1:Int} (ho:On (sk σ) key root 0 l e1) (hs:Az σ key e1=true) :
 Calls Tryz.prog 61 #[.pointer (some ⟨s,0,none⟩),.int .i64 root,.agg (AK key)] w fun e w'=>e=.returned (.tuple #[.int .i64 (ZL σ root key l).1,.bool true,.int .i64 0])∧Ow w0 w' s (ZL σ root key l).2 G∧But G w w':=by
 obtain⟨F,hAt⟩:=h.at;obtain⟨K,hK⟩:∃K,K=AK key:=⟨_,rfl⟩
 have hKs:K.size=32:=by rw[hK,AN,hk]
 have a0:Adds w (w.alloc (.cells K 47)):=(Ch.refl (fun _=>False) w).alloc _;have ha:=EV (hAt.adds a0) root;have hft:=fun w1 (a:Adds w w1)=>G8 (hAt.adds a) 1
 have hlk:=fun w1 (a:Adds w w1)=>look_ok (hAt.adds a) GG root key hk (CI hh) ho
 have hll:l.length≤256:=by have:=ho.len GG.fit (by omega);omega
 have hfr:=Iy σ key l l.length 0;rw[hh] at ha;rw[hf] at hft;rw[hs, ←hK] at hlk;rw[←hK];have hdel:ZL σ root key l=((Jk σ key l).1,(An (Jk σ key l).2 root).2.2):=rfl
 have hcut:Jk σ key l=(if (BO σ key l l.length 0).2.2=true then upL key 0 (l.take (BO σ key l l.length 0).2.1.toNat) (CU (Aq σ (BO σ key l l.length 0).1) key (BO σ key l l.length 0).2.1 0 (BO σ key l l.length 0).1).2.2 (CU (Aq σ (BO σ key l l.length 0).1) key (BO σ key l l.length 0).2.1 0 (BO σ key l l.length 0).1).1
  else upL key 0 (l.take ((BO σ key l l.length 0).2.1+1).toNat) (Aq σ (BO σ key l l.length 0).1) (BO σ key l l.length 0).1):=rfl
 obtain⟨st,fr,an,hL⟩:∃st fr an,BO σ key l l.length 0=(st,fr,an):=⟨_,_,_,rfl⟩
 rw[hL] at hlk hfr hcut;simp only at hlk hfr hcut;obtain⟨cr,hcr⟩:∃x,x=Jk σ key l:=⟨_,rfl⟩
 rw[←hcr] at hcut hdel;have HA:=Lib.hid ha;have A0:=Lib.hid a0;have HF:=Lib.hid hft;have HLK:=Lib.hid hlk;have HK:=Lib.hid hKs;have HKK:=Lib.hid hK;have HO:=Lib.hid h;have HCUT:=(hIq hcut hdel)
 have HFR:=Lib.hid hfr;clear hK ha a0 hft hf hh hlk hs ho GG hKs hL hAt h hcr hcut hdel hfr;go_enter Tryz.func61,Tryz.ntmps61;go_wp2_with fail;refine HA.out.mono ?_;rintro e w1 ⟨rfl,a1⟩;have A1:=Lib.hid (A0.out.trans a1 (fun _=>fEq));have K1:=Lib.hid (a1.row (heap_alloc_new w (.cells K 47)) id);clear a1;go_wp2_with fail;refine(HF.out _ A1.out).mono ?_;rintro e w2 ⟨rfl,rfl⟩
 go_wp2_with (first
  | fail
  | ((with_reducible show zOq (.load 47 _));refine AG rfl 47 _ rfl w.heap.size 0 rfl K1.out Tryz.underlying47 rfl AY (by rw[HK.out];omega) K (by simp[←HK.out]) ?_))
 refine(HLK.out _ A1.out).mono ?_;rintro e w2 ⟨v2,rfl,o2,a2⟩;obtain⟨ao2,cap2,rfl⟩:=Aj o2;have H2:=(hIq o2 a2)
 clear o2 a2
 go_upto_region 7 with(first
  | fail
  | ((with_reducible show zOq (.store 230 _ _));refine AE rfl 230 _ _ rfl w2.heap.size 0 #[.slice ao2 l.length cap2,.bool true,.int .i64 st,.int .i64 fr,.bool an] rfl rfl (heap_alloc_new _ _) Dx (by simp) (by simp[Value.oneCell']) #[.slice ao2 l.length cap2,.bool true,.int .i64 st,.int .i64 fr,.bool an] (by simp[splice]) ?_))
 obtain⟨w3,hw3⟩:∃w3,w3=(w2.alloc (.cells #[.slice none 0 0,.bool false,.int .i64 0,.int .i64 0,.bool false] 230)).setRow w2.heap.size #[.slice ao2 l.length cap2,.bool true,.int .i64 st,.int .i64 fr,.bool an]:=⟨_,rfl⟩
 rw[←hw3];have k2:=H2.out.2.row K1.out id;have b12:=A1.out.trans H2.out.2 (fun _=>fEq);have z1:=A1.out.size;have z2:=H2.out.2.size;have z3:=Ac k2;have ad3:Adds w2 w3:=by rw[hw3];exact((Ch.refl _ _).alloc _).setRow (.inr (Nat.le_refl _)) _
 have zs3:w3.heap.size=w2.heap.size+1:=by rw[hw3];simp
 have pa:Gv w.heap.size w2.heap.size K ao2 cap2 l true st fr an w3:=by
  refine⟨?_,ad3.row k2 id,(ad3.owns H2.out.1 (fun _ _ h=>h)).base (fun _ _=>Nat.zero_le _)⟩;rw[hw3];exact AF (heap_alloc_new _ _) _
 have aw3:Adds w w3:=b12.trans ad3 (fun _=>fEq)
 have o3:Ow w0 w3 s σ (Ij G w.heap.size w2.heap.size ao2 l.length cap2):=HO.out.more aw3 (fun k hk=>by
  rcases hk with hk|rfl|rfl|hk
  · exact .inl hk
  · exact .inr ⟨Nat.le_refl _,by omega⟩
  · exact .inr ⟨by omega,by omega⟩
  have:=H2.out.1.lt k hk;exact .inr ⟨by omega,by omega⟩)
 have H3:=(hIq pa (aIq aw3 o3))
 clear hw3 k2 b12 z1 z2 z3 ad3 zs3 pa aw3 o3 K1 H2 A1 A0 HLK HF HA HO;have q1:=AH H3.out.1.1 (i:=1) rfl;go_upto_region 9 with fail;refine AO (fun w0=>Gv w.heap.size w2.heap.size K ao2 cap2 l true st fr an w0) 6 [(0,false),(1,false),(2,false),(3,false),(4,false),(5,false)] (by kernel_rfl) (by kernel_rfl) ?_ ?_
 · exact H3.out.1.adds (Ch.refl _ _).drew
 refine plan_look rfl rfl (fun w0 hS=>(by clear hS;go_simp;try rfl)) ?_;simp only[Act.put,nAq,nBq,nCq];refine plan_look (v:=.int .i64 st) rfl rfl (fun w0 hS=>(by have e0:=AH hS.1 (i:=2) rfl;clear hS;go_simp;try rfl)) ?_;simp only[Act.put,nAq,nBq,nCq];refine plan_look rfl rfl (fun w0 hS=>(by clear hS;go_simp;try rfl)) ?_;simp only[Act.put,nAq,nBq,nCq];refine plan_look (v:=.int .i64 fr) rfl rfl (fun w0 hS=>(by have e0:=AH hS.1 (i:=3) rfl;clear hS;go_simp;try rfl)) ?_;simp only[Act.put,nAq,nBq,nCq]
 iterate 2
  refine plan_look rfl rfl (fun w0 hS=>(by clear hS;go_simp;try rfl)) ?_;simp only[Act.put,nAq,nBq,nCq]
 refine AZ ?_;simp only[List.drop_succ_cons,List.drop_zero];go_wp2;refine NoPanic.normal ?_;have H4:=(hIq (H3.out.1.adds (Ch.refl _ _).drew) (aIq (H3.out.2.1.drew) (H3.out.2.2.adds (Ch.refl _ _).drew)))
 clear q1 H3;go_upto_if 36 with fail;go_cut [] (fun wx=>Ow w0 wx s (Aq σ st) (Ij G w.heap.size w2.heap.size ao2 l.length cap2)∧But (Ij G w.heap.size w2.heap.size ao2 l.length cap2) w3.drew wx)
 case first =>
  by_cases hst:st=0
  · have e1':(st != 0)=false:=by simpa using hst
    have hhe:Aq σ st=σ:=by unfold Aq;rw[if_neg (by simpa using hst)]
    have HH:=Lib.hid hhe;clear hst hhe;go_wp2_with fail;go_meet;exact⟨by rw[HH.out];exact H4.out.2.2,Adds.but (Ch.refl _ _)⟩
  have e1':(st != 0)=true:=by simpa using hst
  have hhe:Aq σ st=(BI σ st).2:=by unfold Aq;rw[if_pos hst]
  have HH:=Lib.hid hhe;clear hst hhe;go_wp2_with fail;refine(H4.out.2.2.hold st).mono ?_;rintro e w5 ⟨rfl,o5,b5⟩;have H5:=(hIq o5 b5)
  clear o5 b5;go_wp2_with fail;go_meet;exact⟨by rw[HH.out];exact H5.out.1,H5.out.2⟩
 obtain⟨oc,bc⟩:=hcut;have H5:=(hIq (H4.out.1.but bc) (aIq oc bc))
 clear oc bc;have q4:=AH H5.out.1.1 (i:=4) rfl;go_upto_if 41 with fail;go_cut [11,12] (fun s11 s12 wx=>∃(m:Nat) (now:Int) (τ:AD Nd) (x:Int),s11=.int .i64 now∧s12=.int .i64 x∧x=(m:Int)-1∧m≤l.length∧cr=upL key 0 (l.take m) τ now∧Ow w0 wx s τ (Ij G w.heap.size w2.heap.size ao2 l.length cap2)∧But (Ij G w.heap.size w2.heap.size ao2 l.length cap2) w3.drew wx)
 case first =>
  obtain⟨f1,f2,f3⟩:=HFR.out;cases an with
  | true =>
   have f4:=f3 rfl;have hcr:=HCUT.out.1;rw[if_pos rfl] at hcr;have hjj:=Lq H5.out.2.1 fr key hk 0 st;rw[←HKK.out] at hjj;have HJ:=Lib.hid hjj;have HCR:=Lib.hid hcr;have hf6:fr≤256:=by omega
   have HF6:=(hIq f2 f4)
   clear hjj hcr f1 f2 f3
   go_wp2_with (first
    | fail
    | ((with_reducible show zOq (.load 47 _));refine AG rfl 47 _ rfl w.heap.size 0 rfl H5.out.1.2.1 Tryz.underlying47 rfl AY (by rw[HK.out];omega) K (by simp[←HK.out]) ?_))
   refine HJ.out.mono ?_;rintro e w6 ⟨rfl,o6,b6⟩;have H6:=(hIq o6 (H5.out.2.2.then b6))
   clear o6 b6;go_wp2_with fail;go_meet;exact⟨fr.toNat,_,_,_,rfl,rfl,by have:=HF6.out;omega,by have:=HF6.out;omega,HCR.out,H6.out.1,H6.out.2⟩
  | false =>
   have hcr:=HCUT.out.1;rw[if_neg (by simp)] at hcr;have HCR:=Lib.hid hcr;have HF6:=(hIq f1 f2)
   clear hcr f1 f2 f3;go_wp2_with fail;go_meet;exact⟨(fr+1).toNat,_,_,_,rfl,rfl,by have:=HF6.out;omega,by have:=HF6.out;omega,HCR.out,H5.out.2.1,H5.out.2.2⟩
 obtain⟨m,n1,τ1,x1,rfl,rfl,hx1,hm1,hcr1,ho1,hb1⟩:=hcut;have HM:=(hIq hx1 (aIq hm1 (aIq hcr1 (aIq ho1 hb1))))
 clear hx1 hm1 hcr1 ho1 hb1 q4 H5;go_wp2_with fail;go_loopg [11,12,13] m (fun g s11 s12 s13 wr=>∃(now x:Int) (τ:AD Nd),s11=.int .i64 now∧s12=.int .i64 x∧x=(g:Int)-1∧g≤l.length∧cr=upL key 0 (l.take g) τ now∧Ow w0 wr s τ (Ij G w.heap.size w2.heap.size ao2 l.length cap2)∧But (Ij G w.heap.size w2.heap.size ao2 l.length cap2) w3.drew wr)
 case atStart=>exact⟨n1,x1,τ1,rfl,rfl,HM.out.1,HM.out.2.1,HM.out.2.2.1,HM.out.2.2.2.1,HM.out.2.2.2.2⟩
 obtain⟨now,x,τ,rfl,rfl,hx,hg,hcr,hO,hB⟩:=hrel;have HP:=Lib.hid (H4.out.1.but hB);have HOB:=(hIq hO (aIq hB hcr))
 clear hO hB hcr;rcases Nat.eq_zero_or_pos gk with h0|h0
 · subst h0
   have hx1:decide ((0:Int)≤x)=false:=decide_eq_false (by omega);clear hx;go_wp2_with fail;refine(HOB.out.1.drop root).mono ?_;rintro e w9 ⟨rfl,o9,b9⟩;have H9:=(hIq o9 (HOB.out.2.1.then b9))
   clear o9 b9;go_wp2_with fail;go_ret3;have hc0:cr=(now,τ):=HOB.out.2.2;refine⟨?_,?_,?_⟩
   · rw[HCUT.out.2,hc0];rfl
   · rw[HCUT.out.2,hc0]
     exact H9.out.1.less (fun k hk=>.inl hk)
   exact(Adds.but H4.out.2.1).then (H9.out.2.less (fun k hk=>.inl hk))
 obtain⟨j,rfl⟩:∃j,gk=j+1:=⟨gk-1,by omega⟩
 have hxe:x=(j:Int):=by omega
 subst hxe;have hx1:decide ((0:Int)≤(j:Int))=true:=decide_eq_true (by omega);have hlt:j<l.length:=by omega
 have hlti:(j:Int)<(l.length:Int):=by omega
 have hj256:(j:Int)≤256:=by omega
 obtain⟨h1,hget⟩:∃h1,l[j]?=some h1:=⟨_,List.getElem?_eq_getElem hlt⟩
 obtain⟨ga,hao⟩:∃ga,ao2=some ⟨ga,0,none⟩:=by
  obtain⟨_,h|⟨g0,cap',cur,h,_⟩⟩:=HP.out.2.2
  · exact absurd h.2 (by omega)
  injection h with h _ _;exact⟨g0,h⟩
 subst hao
 have hcell:wr.cell? ⟨ga,j,none⟩=some (.int .i64 h1):=by
  rw[HP.out.2.2.cellAt j (by omega)];unfold Store.hl;rw[List.getElem?_map,hget];rfl
 have hcr:=HOB.out.2.2;rw[show l.take (j+1)=l.take j ++ [h1] by rw[List.take_add_one,hget];rfl,Me,List.length_take,Nat.min_eq_left (by omega),Nat.zero_add] at hcr;unfold Hp at hcr;obtain⟨Fa,hFa⟩:=HOB.out.1.at;have hcon:=fun w5 (a:Adds wr w5)=>Oy (hFa.adds a) h1 j key hk
 obtain⟨o,ho⟩:∃o,o=Bg τ key h1 j:=⟨_,rfl⟩
 rw[←ho] at hcr hcon;rw[←HKK.out] at hcon;have HU:=Lib.hid hcr;have HCON:=Lib.hid hcon;have HCE:=Lib.hid hcell;clear hcr hcon ho hcell hx h0 hget hFa;go_wp2;refine AO (fun w0=>Gv w.heap.size w2.heap.size K (some ⟨ga,0,none⟩) cap2 l true st fr an w0∧w0.cell? ⟨ga,j,none⟩=some (.int .i64 h1)) 9 [(0,false),(1,false),(2,false),(3,false),(4,false),(5,false),(6,false),(7,false),(8,true)] (by kernel_rfl) (by kernel_rfl) ?_ ?_
 · exact⟨HP.out.adds (Ch.refl _ _).drew,HCE.out⟩
 iterate 2
  refine plan_look rfl rfl (fun w0 hS=>(by clear hS;go_simp;try rfl)) ?_;simp only[Act.put,nAq,nBq,nCq]
 refine plan_look (v:=.slice (some ⟨ga,0,none⟩) l.length cap2) rfl rfl (fun w0 hS=>(by have e0:=AH hS.1.1 (i:=0) rfl;clear hS;go_simp;try rfl)) ?_;simp only[Act.put,nAq,nBq,nCq]
 iterate 2
  refine plan_look rfl rfl (fun w0 hS=>(by clear hS;go_simp;try rfl)) ?_;simp only[Act.put,nAq,nBq,nCq]
 refine plan_look (v:=.int .i64 h1) rfl rfl (fun w0 hS=>(by have e0:=hS.2;clear hS;go_simp;try rfl)) ?_;simp only[Act.put,nAq,nBq,nCq];refine plan_look rfl rfl (fun w0 hS=>(by clear hS;go_simp;try rfl)) ?_;simp only[Act.put,nAq,nBq,nCq];refine Ah (cur:=K) (t:=47) (fr:=(0,0)) rfl rfl 47 (.tmp 5) rfl w.heap.size 0 32 rfl (fun w0 hS=>hS.1.2.1) Tryz.underlying47 rfl AY (by rw[HK.out];omega) K (by simp[←HK.out]) ?_;simp only[Act.put,nAq,nBq,nCq];refine AV rfl ?_;go_wp2_with fail;refine(HCON.out _ (Ch.refl _ _).drew).mono ?_;rintro e w6 ⟨rfl,a6⟩;have a6':Adds wr w6:=((Ch.refl (fun _=>False) wr).drew).trans a6 (fun _=>fEq);have H6:=(hIq (HP.out.adds a6') (aIq (HOB.out.1.adds a6') (HOB.out.2.1.then (Adds.but a6'))))
 have HC6:=Lib.hid (a6'.cell HCE.out id);clear a6 a6' HCE;dsimp only;go_step;refine wpList_nil ?_;change _∧_;refine⟨⟨H6.out.1,HC6.out⟩,?_⟩;refine AZ ?_;simp only[List.drop_succ_cons,List.drop_zero];go_wp2;refine NoPanic.normal ?_;by_cases hz:o=0
 · have eo:(o != 0)=false:=by simpa using hz
   have ehs:Aq τ o=τ:=by unfold Aq;rw[if_neg (by simpa using hz)]
   have hU:=HU.out;rw[ehs] at hU;have HU2:=Lib.hid hU;clear ehs hU hz;have hjj:=Lq H6.out.2.1 (j:Nat) key hk now o;rw[←HKK.out] at hjj;have HJ:=Lib.hid hjj;clear hjj
   go_wp2_with (first
    | fail
    | ((with_reducible show zOq (.load 47 _));refine AG rfl 47 _ rfl w.heap.size 0 rfl H6.out.1.2.1 Tryz.underlying47 rfl AY (by rw[HK.out];omega) K (by simp[←HK.out]) ?_))
   refine HJ.out.mono ?_;rintro e w9 ⟨rfl,o9,b9⟩;have H9:=(hIq o9 (H6.out.2.2.then b9))
   clear o9 b9;go_wp2_with fail;go_roundg j
   case measure=>omega
   exact⟨_,_,_,rfl,rfl,by omega,by omega,HU2.out,H9.out.1,H9.out.2⟩
 have eo:(o != 0)=true:=by simpa using hz
 have ehs:Aq τ o=(BI τ o).2:=by unfold Aq;rw[if_pos hz]
 have hU:=HU.out;rw[ehs] at hU;have HU2:=Lib.hid hU;clear ehs hU hz;go_wp2_with fail;refine(H6.out.2.1.hold o).mono ?_;rintro e w7 ⟨rfl,o7,b7⟩;have H7:=(hIq (H6.out.1.but b7) (aIq o7 (H6.out.2.2.then b7)))
 clear o7 b7;have hjj:=Lq H7.out.2.1 (j:Nat) key hk now o;rw[←HKK.out] at hjj;have HJ:=Lib.hid hjj;clear hjj
 go_wp2_with (first
  | fail
  | ((with_reducible show zOq (.load 47 _));refine AG rfl 47 _ rfl w.heap.size 0 rfl H7.out.1.2.1 Tryz.underlying47 rfl AY (by rw[HK.out];omega) K (by simp[←HK.out]) ?_))
 refine HJ.out.mono ?_;rintro e w9 ⟨rfl,o9,b9⟩;have H9:=(hIq o9 (H7.out.2.2.then b9))
 clear o9 b9;go_wp2_with fail;go_roundg j
 case measure=>omega
 exact⟨_,_,_,rfl,rfl,by omega,by omega,HU2.out,H9.out.1,H9.out.2⟩
end
end Go.Proofs.YtngbdbpofifimaaGreat.Store
