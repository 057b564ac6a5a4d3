/- Laws of the layers below. -/
import Derived.Test.YtngbdbpofifimaaGreatQm19
import Derived.Test.YtngbdbpofifimaaGreatQm22
set_option maxHeartbeats 3200000
set_option maxRecDepth 100000
set_option linter.unusedVariables false
namespace Go.Proofs.YtngbdbpofifimaaGreat.Store
open Go.RowKit Go.Sort Go.Proofs.YtngbdbpofifimaaGreat.ShaW Go.Proofs.YtngbdbpofifimaaGreat.Path
theorem IV (a b:List UInt8) (ha:a.length=32) (hb:b.length=32) (w:World) :
 Calls Tryz.prog 164 #[.agg (AS a),.agg (AS b)] w fun e w'=>e=.returned (.int .i64 (Lib.compareBytes a b))∧AN w w' :=
 (Path.Od a b ha hb w).mono fun e w' ⟨he,q,os,hw⟩=>⟨he,by
  subst hw;refine⟨rfl,rfl,rfl,by simp[grow],fun k hk _=>?_⟩
  show(w.heap++os)[k]?=_
  rw[Array.getElem?_append_left hk]⟩
theorem TA (a b:List UInt8) (ha:a.length=32) (hb:b.length=32) (d:Nat) (hd:d≤256) (w:World) :
 Calls Tryz.prog 232 #[.agg (AS a),.agg (AS b),.int .i64 (d:Int)] w fun e w'=>e=.returned (.bool (decide (d≤common a b)))∧AN w w':=by
 obtain⟨A,hA⟩:∃A,A=AS a:=⟨_,rfl⟩
 obtain⟨B,hB⟩:∃B,B=AS b:=⟨_,rfl⟩
 have hAs:A.size=32:=by rw[hA,AU,ha]
 have hBs:B.size=32:=by rw[hB,AU,hb]
 have hcm:=fun w1=>CX a b ha hb w1
 rw[←hA, ←hB] at hcm ⊢;have g1:((w.alloc (.cells A 47)).alloc (.cells B 47)).heap[w.heap.size]?=some (.cells A 47 (0,0)):=AQ (heap_alloc_new _ _) _
 have g2:((w.alloc (.cells A 47)).alloc (.cells B 47)).heap[w.heap.size+1]?=some (.cells B 47 (0,0)):=by
  have:=heap_alloc_new (w.alloc (.cells A 47)) (.cells B 47);simpa using this
 obtain⟨c,hc⟩:∃c,c=common a b:=⟨_,rfl⟩
 rw[←hc] at hcm ⊢;have HA:=Lib.hid hAs;have HB:=Lib.hid hBs;have G1:=Lib.hid g1;have G2:=Lib.hid g2;have HCM:=Lib.hid hcm;have h0:(0:Int)≤(d:Int):=by omega
 have h256:(d:Int)≤256:=by omega
 clear hA hB hAs hBs g1 g2 ha hb hcm hc;go_enter Tryz.func232,Tryz.ntmps232
 go_wp2_with (first
  | fail
  | ((with_reducible show zOq (.load 47 _));refine Bg (by first|rfl|(simp[Region.wanted];done)) 47 _ rfl w.heap.size 0 rfl G1.out Tryz.underlying47 rfl Ab (by rw[HA.out];omega) A (by simp[←HA.out]) ?_)
  | ((with_reducible show zOq (.load 47 _));refine Bg (by first|rfl|(simp[Region.wanted];done)) 47 _ rfl (w.heap.size+1) 0 rfl G2.out Tryz.underlying47 rfl Ab (by rw[HB.out];omega) B (by simp[←HB.out]) ?_)
  | ((with_reducible show zOq (.load 47 _));refine AJ rfl 47 _ rfl w.heap.size 0 rfl G1.out Tryz.underlying47 rfl Ab (by rw[HA.out];omega) A (by simp[←HA.out]) ?_)
  | ((with_reducible show zOq (.load 47 _));refine AJ rfl 47 _ rfl (w.heap.size+1) 0 rfl G2.out Tryz.underlying47 rfl Ab (by rw[HB.out];omega) B (by simp[←HB.out]) ?_))
 refine(HCM.out _).mono ?_;rintro e w1 ⟨rfl,a1⟩;have A1:=Lib.hid ((((Ch.refl (fun _=>False) w).alloc (.cells A 47)).alloc (.cells B 47)).trans a1 (fun _=>fEq));clear a1;go_wp2;go_ret;exact⟨rfl,A1.out⟩
theorem Sj {f:View} (hf:Fit f) {h:Int} {d:Nat} {t:Tr} {n:Nd} (hr:Rep f h d t) (hn:f h=some n) (hk:n.kind=2) {key:List UInt8} (hkl:key.length=32) (hu:¬d≤common key n.key) :
 t.Bx key=(if Lib.compareBytes n.key key<0 then t.leaves else 0):=by
 obtain⟨e1,e2,_⟩:=hr.Ah hf;have hnl:=(hf.all _ _ hn).key
 have hne:key≠n.key:=fun e=>by
  rw[e,D6,hnl] at hu;have hd1:=(hf.inner hn hk).d1;have:=hr.G5 hn hf.zero hk;omega
 obtain⟨c1,c2,c3⟩:=CA key n.key (by omega) hne;obtain⟨c,hc⟩:∃c,c=common key n.key:=⟨_,rfl⟩
 rw[←hc] at c1 c2 c3 hu
 have key':∀e∈t.Ah,(Lib.compareBytes e.1 key<0↔Lib.compareBytes n.key key<0):=fun e he=>by
  have hp:=(e2 n hn e he).1 hk;refine(TT (d:=c) (e1 e he).1 hkl hnl (by omega) (hp.less (by omega)) ((hp.less (by omega)).trans c2.symm) (fun h=>c3 ?_)).1;rw[←h];exact hp c (by omega)
 split
 · rename_i hlt
   exact Mv fun e he=>(key' e he).2 hlt
 rename_i hge;exact LV fun e he h=>hge ((key' e he).1 h)
theorem UA {f:View} (hf:Fit f) {h:Int} {d:Nat} {n:Nd} {l r:Tr} (hn:f h=some n) (hk:n.kind=2) (hd:n.depth=(d:Nat)) (hl:Rep f n.left (d+1) l) (hr:Rep f n.right (d+1) r) {key:List UInt8} (hkl:key.length=32) (hu:d≤common key n.key) :
 (Tr.node l r).Bx key=if Ao key d=1 then l.leaves+r.Bx key else l.Bx key:=by
 obtain⟨s0,s1⟩:=Rep.sides hf hn hk hd hl hr;have hnl:=(hf.all _ _ hn).key;have hp:=Ec hkl hnl hu;have hd1:=(hf.inner hn hk).d1;have ll:=(hl.Ah hf).1;have lr:=(hr.Ah hf).1;rw[Tr.QO];by_cases hb:Ao key d=1
 · rw[if_pos hb,Mv fun e he=>?_]
   obtain⟨p,q⟩:=s0 e he;rw[Dw e.1 key d (by rw[(ll e he).1,hkl]) (by rw[(ll e he).1];omega) (p.trans hp.symm) q hb]
   decide
 have hb0:Ao key d=0:=(BX key d).resolve_right hb;rw[if_neg hb,LV (t:=r) fun e he h=>?_]
 · rfl
 obtain⟨p,q⟩:=s1 e he;have h2:=Dw key e.1 d (by rw[(lr e he).1,hkl]) (by rw[hkl];omega) (hp.trans p.symm) hb0 q;have:=CP e.1 key e.1 h (by rw[h2];decide);rw[F7] at this;omega
theorem Bm {w:World} {s:Nat} {F:Nat→Prop} {σ:AG Nd} (h:At w s F σ) (G:Good σ) {n:Int} {d:Nat} {t:Tr} (hr:Rep (sk σ) n d t):(nd σ n).size=(t.leaves:Int)∧t.leaves≤65536:=by
 have h1:=hr.size G.fit;rw[Dj] at h1;have h2:=JV G hr;rw[Tr.BS] at h2;have:=h.len;have:=h.room;refine⟨?_,by omega⟩
 show(stat (nd σ n)).size=_
 rw[h1];unfold wrap64;omega
theorem Ly {w:World} {s:Nat} {F:Nat→Prop} {σ:AG Nd} (h:At w s F σ) (G:Good σ) {root:Int} {t:Tr} (hr:Rep (sk σ) root 0 t) (key:List UInt8) (hk:key.length=32) :
 Calls Tryz.prog 161 #[.pointer (some ⟨s,0,none⟩),.int .i64 root,.agg (AS key)] w fun e w'=>e=.returned (.int .i64 (t.Bx key:Nat))∧AN w w':=by
 obtain⟨K,hK⟩:∃K,K=AS key:=⟨_,rfl⟩
 have hKs:K.size=32:=by rw[hK,AU,hk]
 rw[←hK];obtain⟨all,hall⟩:∃all,all=t.Bx key:=⟨_,rfl⟩
 have hal:all≤65536:=by
  have:=Iw t key;have:=(Bm h G hr).2;omega
 obtain⟨Z,hZ⟩:∃Z,Z=AS (List.replicate 32 0):=⟨_,rfl⟩
 have hzp:=Ft;rw[←hZ] at hzp;have hZs:Z.size=32:=by rw[hZ];rfl
 obtain⟨wb,hwb⟩:∃wb,wb=w.alloc (.cells K 47):=⟨_,rfl⟩
 have hab:AN w wb:=by rw[hwb];exact(Ch.refl _ _).alloc _
 have hrb:wb.heap[w.heap.size]?=some (.cells K 47 (0,0)):=by rw[hwb];exact heap_alloc_new _ _
 obtain⟨b0,hb0⟩:∃b0,b0=w.heap.size:=⟨_,rfl⟩
 rw[←hb0] at hrb;have HAT:=Lib.hid (h.adds hab);have HG:=Lib.hid G;have HR:=(hIq hr hall)
 have HK:=(hIq hK (aIq hKs hk))
 have HWB:=(hIq hwb hb0)
 have HB:=(hIq hab hrb)
 have HZ:=(hIq hzp hZs)
 have HAL:=Lib.hid hal;rw[←hall];clear h G hr hall hK hKs hk hwb hab hrb hzp hZs hZ hal;go_enter Tryz.func161,Tryz.ntmps161;go_wp2;rw[←HWB.out.1];rw[←HWB.out.2];clear hb0 HWB;go_loopg [7,8] 257 (fun g s7 s8 wr=>∃(c:Int) (d n:Nat) (u:Tr),s7=.int .i64 (n:Nat)∧s8=.int .i64 c∧Rep (sk σ) c d u∧n+u.Bx key=all∧d+g=257∧d≤256∧AN wb wr)
 case atStart=>exact⟨root,0,0,t,rfl,rfl,HR.out.1,by rw[HR.out.2];omega,rfl,by omega,Ch.refl _ _⟩
 obtain⟨c,d,n,u,rfl,rfl,hu,hn,hg,hd,hA⟩:=hrel;have hAt:=HAT.out.adds hA;have hrow:=hA.row HB.out.2 id;have hnb:n≤65536:=by have:=HAL.out;omega
 have HA:=(hIq hA hrow)
 have HN:=(hIq hn hg)
 have HU:=Lib.hid hu;have hlv:=(Bm hAt HG.out hu).2;have hsz:=(Bm hAt HG.out hu).1;have hkd:=IQ hAt c;have hky:=fun w1 (a:AN wr w1)=>I3 (hAt.adds a) c
 have hdp:=fun w1 (a:AN wr w1)=>Kg (hAt.adds a) c
 have hsi:=fun w1 (a:AN wr w1)=>FU (hAt.adds a) c
 have hsd:=fun w1 (a:AN wr w1)=>GU (hAt.adds a) c
 rw[hsz] at hsi;by_cases h0:c=0
 · subst h0
   have hu0:=hu.D1 HG.out.fit.zero;subst hu0;have hna:n=all:=by simpa[Tr.Bx,Tr.Ah] using hn
   subst hna;clear hA hu hn hg hd hAt hrow hlv hsz hkd hky hdp hsi hsd;go_wp2;go_ret;exact⟨rfl,HB.out.1.trans HA.out.1 (fun _=>fEq)⟩
 have hc0:(c != 0)=true:=by simpa using h0
 have hc0':decide (c=0)=false:=decide_eq_false h0;obtain⟨x,hx⟩:=hu.live.resolve_left h0;have hkl:x.key.length=32:=(HG.out.fit.all _ _ hx).key;obtain⟨q1,q2,q3,q4,q5,q6,q7⟩:=Hd hx;rw[q2] at hkd;rw[q6] at hky;obtain⟨T,hT⟩:∃T,T=AS x.key:=⟨_,rfl⟩
 have hTs:T.size=32:=by rw[hT,AU,hkl]
 have hT1:∀v∈T.toList,v.oneCell'=true:=by rw[hT];exact BO _
 have hcm:=IV x.key key hkl HK.out.2.2;rw[←hT, ←HK.out.1] at hcm;rw[←hT] at hky;have HT:=(hIq hT (aIq hTs hT1))
 have HKY:=Lib.hid hky;have HCM:=Lib.hid hcm;clear hT hTs hT1 hky hcm hc0' h0;by_cases hk2:x.kind=2
 · rw[hk2] at hkd
   have HKD:=Lib.hid hkd
   obtain⟨l,r,hdx,hl,hr,rfl⟩:∃l r,x.depth=(d:Nat)∧Rep (sk σ) x.left (d+1) l∧Rep (sk σ) x.right (d+1) r∧u=.node l r:=by
    cases hu with
    | nil=>rw[HG.out.fit.zero] at hx;cases hx
    | leaf hn' h1=>rw[hx] at hn';cases hn';omega
    | node hn' _ h2 hl hr=>rw[hx] at hn';cases hn';exact⟨_,_,h2,hl,hr,rfl⟩
   have hd1:=(HG.out.fit.inner hx hk2).d1;have hd255:d≤255:=by omega
   rw[show depth σ c=(d:Int) by unfold depth;rw[q1,if_pos rfl,q3,hdx]] at hdp;have hun:=TA key x.key HK.out.2.2 hkl d (by omega);rw[←HK.out.1, ←HT.out.1] at hun;have HDP:=Lib.hid hdp;have HUN:=Lib.hid hun;clear hdp hun hkd;have huni:=HU.out;go_wp2_with fail;refine HKD.out.mono ?_;rintro e w1 ⟨rfl,a1⟩;have A1:=Lib.hid a1;clear a1 huni;go_wp2_with fail;refine(HDP.out _ A1.out).mono ?_;rintro e w2 ⟨rfl,a2⟩;have A2:=Lib.hid (A1.out.trans a2 (fun _=>fEq));clear a2 A1;go_wp2_with fail;refine(HKY.out _ A2.out).mono ?_;rintro e w3 ⟨rfl,a3⟩;have A3:=Lib.hid (A2.out.trans a3 (fun _=>fEq));clear a3 A2;obtain⟨w4,hw4⟩:∃w4,w4=(w3.alloc (.cells Z 47)).setRow w3.heap.size T:=⟨_,rfl⟩
   have r4:w4.heap[w3.heap.size]?=some (.cells T 47 (0,0)):=by rw[hw4];exact AK (heap_alloc_new _ _) _
   have a4:AN wr w4:=by rw[hw4];exact(A3.out.alloc _).setRow (.inr A3.out.size) _
   have k4:=a4.row HA.out.2 id;have R4:=(hIq r4 (aIq a4 k4))
   have HW4:=Lib.hid hw4;clear hw4 r4 a4 k4
   go_upto_region 10 with(first
    | fail
    | ((with_reducible show zOq (.alloc 47));refine AO rfl 47 rfl (.agg Z) HZ.out.1 ?_;dsimp only[Value.cells];try simp only[World.size_alloc])
    | ((with_reducible show zOq (.store 47 _ _));refine AI rfl 47 _ _ rfl w3.heap.size 0 T rfl rfl (heap_alloc_new _ _) (by rw[Ab,HT.out.2.1]) (by rw[HT.out.2.1,HZ.out.2];omega) HT.out.2.2 T (by rw[AT _ _ (by rw[Array.length_toList,Array.length_toList,HT.out.2.1,HZ.out.2])]) ?_))
   rw[←HW4.out]
   go_wp2_with (first
    | fail
    | ((with_reducible show zOq (.load 47 _));refine AJ rfl 47 _ rfl w3.heap.size 0 rfl R4.out.1 Tryz.underlying47 rfl Ab (by rw[HT.out.2.1];omega) T (by have:=HT.out.2.1;simp[←this]) ?_)
    | ((with_reducible show zOq (.load 47 _));refine AJ rfl 47 _ rfl b0 0 rfl R4.out.2.2 Tryz.underlying47 rfl Ab (by rw[HK.out.2.1];omega) K (by have:=HK.out.2.1;simp[←this]) ?_))
   refine(HUN.out _).mono ?_;rintro e w5 ⟨rfl,a5⟩;have R5:=(hIq (a5.row R4.out.1 id) (aIq (R4.out.2.1.trans a5 (fun _=>fEq)) (a5.row R4.out.2.2 id)))
   clear a5;have HX:=(hIq hx (aIq hdx (aIq hl (aIq hr hk2))))
   clear hx hdx hl hr q1 q2 q3 q6 q7 hk2;by_cases hud:d≤common key x.key
   · rw[decide_eq_true hud]
     have hin:=UA HG.out.fit HX.out.1 HX.out.2.2.2.2 HX.out.2.1 HX.out.2.2.1 HX.out.2.2.2.1 HK.out.2.2 hud;obtain⟨nl,hnl⟩:∃nl,nl=x.left:=⟨_,rfl⟩
     obtain⟨nr,hnr⟩:∃nr,nr=x.right:=⟨_,rfl⟩
     rw[q4,q5, ←hnl, ←hnr] at hsd;have hsl:=(Bm hAt HG.out HX.out.2.2.1)
     have hss:=fun w1 (a:AN wr w1)=>FU (hAt.adds a) x.left
     rw[hsl.1, ←hnl] at hss;have hbt:=Iy key HK.out.2.2 (d:Int);rw[←HK.out.1,Da (by omega)] at hbt;have HSD:=Lib.hid hsd;have HSS:=Lib.hid hss;have HBT:=Lib.hid hbt;have HIN:=Lib.hid hin;have HNN:=(hIq hnl hnr)
     obtain⟨lv,hlv2⟩:∃lv,lv=l.leaves:=⟨_,rfl⟩
     have hlv3:lv≤65536:=by rw[hlv2];exact hsl.2
     rw[←hlv2] at HSS;have HLV:=(hIq hlv2 hlv3)
     have hws:n+lv≤131072:=by omega
     have hwn:wrap64 ((n:Int)+(lv:Int))=((n+lv:Nat):Int):=by unfold wrap64;omega
     clear hud hin hnl hnr hsd hsl hss hbt hsi hsz hlv hlv2 hlv3 hA hu hn hg hd hAt hrow hd1;go_wp2_with fail;refine(HSD.out _ R5.out.2.1).mono ?_;rintro e w6 ⟨rfl,a6⟩;have R6:=(hIq (R5.out.2.1.trans a6 (fun _=>fEq)) (a6.row R5.out.2.2 id))
     clear a6
     go_wp2_with (first
      | fail
      | ((with_reducible show zOq (.load 47 _));refine AJ rfl 47 _ rfl b0 0 rfl R6.out.2 Tryz.underlying47 rfl Ab (by rw[HK.out.2.1];omega) K (by have:=HK.out.2.1;simp[←this]) ?_))
     refine(HBT.out _).mono ?_;rintro e w7 ⟨rfl,a7⟩;have R7:=Lib.hid (R6.out.1.trans a7 (fun _=>fEq));clear a7;rcases BX key d with hb|hb
     · rw[hb]
       have hin:=HIN.out;rw[if_neg (by omega)] at hin;have HIN2:=Lib.hid hin;clear hin hb hws hwn HIN;go_wp2_with fail;go_roundg (gk-1)
       case measure=>have:=HN.out;omega
       exact⟨nl,d+1,n,l,rfl,rfl,by rw[HNN.out.1];exact HX.out.2.2.1,by rw[←HIN2.out];exact HN.out.1,by have:=HN.out;omega,by omega,HA.out.1.trans R7.out (fun _=>fEq)⟩
     rw[hb];have hin:=HIN.out;rw[if_pos hb] at hin;have HIN2:=Lib.hid hin;clear hin hb HIN;go_wp2_with fail;refine(HSS.out _ R7.out).mono ?_;rintro e w8 ⟨rfl,a8⟩;have R8:=Lib.hid (R7.out.trans a8 (fun _=>fEq));clear a8;go_wp2_with fail;go_roundg (gk-1)
     case measure=>have:=HN.out;omega
     exact⟨nr,d+1,n+lv,r,by first|rfl|rw[hwn]|(congr 1),rfl,by rw[HNN.out.2];exact HX.out.2.2.2.1,by have h1:=HIN2.out;have h2:=HN.out.1;have h3:=HLV.out.1;omega,by have:=HN.out;omega,by omega,HA.out.1.trans R8.out (fun _=>fEq)⟩
   rw[decide_eq_false hud];have hout:=Sj HG.out.fit (Rep.node HX.out.1 HX.out.2.2.2.2 HX.out.2.1 HX.out.2.2.1 HX.out.2.2.2.1) HX.out.1 HX.out.2.2.2.2 HK.out.2.2 hud;obtain⟨lv,hlv2⟩:∃lv,lv=(Tr.node l r).leaves:=⟨_,rfl⟩
   rw[←hlv2] at hout hsi hlv;have HSI:=Lib.hid hsi;have hwn:wrap64 ((n:Int)+(lv:Int))=((n+lv:Nat):Int):=by unfold wrap64;omega
   obtain⟨cv,hcv⟩:∃cv,cv=Lib.compareBytes x.key key:=⟨_,rfl⟩
   rw[←hcv] at HCM hout;by_cases hlt:cv<0
   · rw[if_pos hlt] at hout
     have HO:=Lib.hid hout;clear hud hout hlv2 hcv hsi hsz hsd hA hu hn hg hd hAt hrow hd1
     go_wp2_with (first
      | fail
      | ((with_reducible show zOq (.load 47 _));refine AJ rfl 47 _ rfl w3.heap.size 0 rfl R5.out.1 Tryz.underlying47 rfl Ab (by rw[HT.out.2.1];omega) T (by have:=HT.out.2.1;simp[←this]) ?_)
      | ((with_reducible show zOq (.load 47 _));refine AJ rfl 47 _ rfl b0 0 rfl R5.out.2.2 Tryz.underlying47 rfl Ab (by rw[HK.out.2.1];omega) K (by have:=HK.out.2.1;simp[←this]) ?_))
     refine(HCM.out _).mono ?_;rintro e w6 ⟨rfl,a6⟩;have R6:=Lib.hid (R5.out.2.1.trans a6 (fun _=>fEq));clear a6;go_wp2_with fail;refine(HSI.out _ R6.out).mono ?_;rintro e w7 ⟨rfl,a7⟩;have R7:=Lib.hid (R6.out.trans a7 (fun _=>fEq));clear a7;go_wp2_with fail;go_ret;have hall:n+lv=all:=by have:=HO.out;have:=HN.out.1;omega
     exact⟨by rw[←hall];first|rfl|rw[hwn],HB.out.1.trans (HA.out.1.trans R7.out (fun _=>fEq)) (fun _=>fEq)⟩
   rw[if_neg hlt] at hout;have HO:=Lib.hid hout;clear hud hout hlv2 hcv hsi hsz hsd hA hu hn hg hd hAt hrow hd1 hwn
   go_wp2_with (first
    | fail
    | ((with_reducible show zOq (.load 47 _));refine AJ rfl 47 _ rfl w3.heap.size 0 rfl R5.out.1 Tryz.underlying47 rfl Ab (by rw[HT.out.2.1];omega) T (by have:=HT.out.2.1;simp[←this]) ?_)
    | ((with_reducible show zOq (.load 47 _));refine AJ rfl 47 _ rfl b0 0 rfl R5.out.2.2 Tryz.underlying47 rfl Ab (by rw[HK.out.2.1];omega) K (by have:=HK.out.2.1;simp[←this]) ?_))
   refine(HCM.out _).mono ?_;rintro e w6 ⟨rfl,a6⟩;have R6:=Lib.hid (R5.out.2.1.trans a6 (fun _=>fEq));clear a6;go_wp2_with fail;go_ret;have hall:n=all:=by have:=HO.out;have:=HN.out.1;omega
   exact⟨by rw[←hall];rfl,HB.out.1.trans (HA.out.1.trans R6.out (fun _=>fEq)) (fun _=>fEq)⟩
 have hk1:=(HG.out.fit.leaf hx hk2).1;rw[hk1] at hkd;have HKD:=Lib.hid hkd
 have hul:u=.leaf x.key x.value:=by
  cases hu with
  | nil=>rw[HG.out.fit.zero] at hx;cases hx
  | leaf hn' h1=>rw[hx] at hn';cases hn';rfl
  | node hn' h1 _ _ _=>rw[hx] at hn';cases hn';omega
 obtain⟨cv,hcv⟩:∃cv,cv=Lib.compareBytes x.key key:=⟨_,rfl⟩
 rw[←hcv] at HCM
 have hrk:u.Bx key=if cv<0 then 1 else 0:=by
  rw[hul,hcv];unfold Tr.Bx Tr.Ah ltK;by_cases hlt:Lib.compareBytes x.key key<0<;>simp[hlt]
 have hwn:wrap64 ((n:Int)+1)=((n+1:Nat):Int):=by unfold wrap64;omega
 by_cases hlt:cv<0
 · rw[if_pos hlt] at hrk
   have HRK:=Lib.hid hrk;clear hkd hul hcv hrk hsi hsz hsd hdp hA hu hn hg hd hAt hrow q1 q2 q3 q4 q5 q6 q7 hx hk1 hk2 hlv;go_wp2_with fail;refine HKD.out.mono ?_;rintro e w1 ⟨rfl,a1⟩;have A1:=(hIq a1 (a1.row HA.out.2 id))
   clear a1;go_wp2;refine AP (fun w0=>w0.heap[b0]?=some (.cells K 47 (0,0))) 6 [(0,false),(1,false),(3,false),(2,true),(4,true),(5,false)] (by kernel_rfl) (by kernel_rfl) ?_ ?_
   · exact AM A1.out.2
   iterate 2
    refine plan_look rfl rfl (fun w0 hS=>(by clear hS;go_simp;try rfl)) ?_;simp only[Act.put,nAq,nBq,nCq]
   refine Aa (cur:=K) (t:=47) (fr:=(0,0)) rfl rfl 47 _ rfl b0 0 32 rfl (fun w0 hS=>hS) Tryz.underlying47 rfl Ab (by rw[HK.out.2.1];omega) K (by have:=HK.out.2.1;simp[←this]) ?_;simp only[Act.put,nAq,nBq,nCq];refine AW rfl ?_;go_wp2_with fail;refine(HKY.out _ A1.out.1.drew).mono ?_;rintro e w2 ⟨rfl,a2⟩;have A2:=(hIq (A1.out.1.drew.trans a2 (fun _=>fEq)) (a2.row (AM A1.out.2) id))
   clear a2;dsimp only;go_step;refine wpList_nil ?_;change _∧_;refine⟨A2.out.2,?_⟩;refine AW rfl ?_;go_wp2_with fail;refine(HCM.out _).mono ?_;rintro e w3 ⟨rfl,a3⟩;have A3:=(hIq (A2.out.1.trans a3 (fun _=>fEq)) (a3.row A2.out.2 id))
   clear a3;dsimp only;go_step;refine wpList_nil ?_;change _∧_;refine⟨A3.out.2,?_⟩;refine plan_look (v:=.bool true) rfl rfl (fun w0 hS=>(by clear hS;go_simp;try rfl)) ?_;simp only[Act.put,nAq,nBq,nCq];refine AZ ?_;simp only[List.drop_succ_cons,List.drop_zero];go_wp2;refine NoPanic.normal ?_;go_wp2_with fail;go_ret;have hall:n+1=all:=by have:=HRK.out;have:=HN.out.1;omega
   exact⟨by rw[←hall];first|rfl|rw[hwn],HB.out.1.trans (HA.out.1.trans A3.out.1 (fun _=>fEq)) (fun _=>fEq)⟩
 rw[if_neg hlt] at hrk;have HRK:=Lib.hid hrk;have hlt':decide (cv<0)=false:=decide_eq_false hlt;clear hkd hul hcv hrk hsi hsz hsd hdp hA hu hn hg hd hAt hrow q1 q2 q3 q4 q5 q6 q7 hx hk1 hk2 hlv hlt hwn;go_wp2_with fail;refine HKD.out.mono ?_;rintro e w1 ⟨rfl,a1⟩;have A1:=(hIq a1 (a1.row HA.out.2 id))
 clear a1;go_wp2;refine AP (fun w0=>w0.heap[b0]?=some (.cells K 47 (0,0))) 6 [(0,false),(1,false),(3,false),(2,true),(4,true),(5,false)] (by kernel_rfl) (by kernel_rfl) ?_ ?_
 · exact AM A1.out.2
 iterate 2
  refine plan_look rfl rfl (fun w0 hS=>(by clear hS;go_simp;try rfl)) ?_;simp only[Act.put,nAq,nBq,nCq]
 refine Aa (cur:=K) (t:=47) (fr:=(0,0)) rfl rfl 47 _ rfl b0 0 32 rfl (fun w0 hS=>hS) Tryz.underlying47 rfl Ab (by rw[HK.out.2.1];omega) K (by have:=HK.out.2.1;simp[←this]) ?_;simp only[Act.put,nAq,nBq,nCq];refine AW rfl ?_;go_wp2_with fail;refine(HKY.out _ A1.out.1.drew).mono ?_;rintro e w2 ⟨rfl,a2⟩;have A2:=(hIq (A1.out.1.drew.trans a2 (fun _=>fEq)) (a2.row (AM A1.out.2) id))
 clear a2;dsimp only;go_step;refine wpList_nil ?_;change _∧_;refine⟨A2.out.2,?_⟩;refine AW rfl ?_;go_wp2_with fail;refine(HCM.out _).mono ?_;rintro e w3 ⟨rfl,a3⟩;have A3:=(hIq (A2.out.1.trans a3 (fun _=>fEq)) (a3.row A2.out.2 id))
 clear a3;dsimp only;go_step;refine wpList_nil ?_;change _∧_;refine⟨A3.out.2,?_⟩;refine plan_look (v:=.bool false) rfl rfl (fun w0 hS=>(by clear hS;go_simp;try rfl)) ?_;simp only[Act.put,nAq,nBq,nCq];refine AZ ?_;simp only[List.drop_succ_cons,List.drop_zero];go_wp2;refine NoPanic.normal ?_;go_wp2_with fail;go_ret;have hall:n=all:=by have:=HRK.out;have:=HN.out.1;omega
 exact⟨by rw[←hall];rfl,HB.out.1.trans (HA.out.1.trans A3.out.1 (fun _=>fEq)) (fun _=>fEq)⟩
end Go.Proofs.YtngbdbpofifimaaGreat.Store
namespace Go.Proofs.YtngbdbpofifimaaGreat.Store
open Go.RowKit Go.Sort Go.Proofs.YtngbdbpofifimaaGreat.ShaW Go.Proofs.YtngbdbpofifimaaGreat.Path Go.Proofs.YtngbdbpofifimaaGreat.Bk
def BA (w:World) (n0:Nat) (v:Value) (bs:List UInt8):Prop :=
 (v=.slice none 0 0∧bs = [])∨∃g c all,v=.slice (some ⟨g,0,none⟩) bs.length c∧n0≤g∧w.heap[g]?=some (.cells (AS all) 5 (0,0))∧all.length=c∧all.take bs.length=bs∧c≤maxLen∧bs.length≤c
section
variable {w w' : World} {n0 n1 : Nat} {v : Value} {bs : List UInt8}
theorem BA.Ae (h:BA w n0 v bs) {F:Nat→Prop} (c:Ch F w w') (hd:∀k,v.ownBlock=some k→¬F k):BA w' n0 v bs:=by
 rcases h with h|⟨g,cp,all,rfl,h1,h2,h3⟩
 · exact .inl h
 exact .inr ⟨g,cp,all,rfl,h1,c.row h2 (hd g rfl),h3⟩
theorem BA.base (h:BA w n0 v bs) (hb:∀k,v.ownBlock=some k→n1≤k):BA w n1 v bs:=by
 rcases h with h|⟨g,cp,all,rfl,h1,h2,h3⟩
 · exact .inl h
 exact .inr ⟨g,cp,all,rfl,hb g rfl,h2,h3⟩
theorem BA.lt (h:BA w n0 v bs):∀k,v.ownBlock=some k→n0≤k∧k<w.heap.size:=fun k hk=>by
 rcases h with⟨rfl,_⟩|⟨g,cp,all,rfl,h1,h2,_⟩
 · cases hk
 cases hk;exact⟨h1,Ad h2⟩
theorem Kw {all bs:List UInt8} {i:Nat} {x:UInt8} (h:all.take bs.length=bs) (hx:bs[i]?=some x):(AS all)[i]?=some (bv x):=by
 have hi:=(List.getElem?_eq_some_iff.1 hx).1;have:all[i]?=some x:=by rw[←h,List.getElem?_take_of_lt hi] at hx;exact hx
 unfold AS;rw[List.getElem?_toArray,List.getElem?_map,this];rfl
theorem BA.bytes (h:BA w n0 v bs):Bytes w v bs:=by
 rcases h with⟨rfl,rfl⟩|⟨g,cp,all,rfl,h1,h2,h3,h4,h5,h6⟩
 · exact Bytes.nil w
 exact⟨_,cp,rfl,h6,h5,fun j y hy=>⟨g,0,rfl,by rw[Nat.zero_add];exact AH h2 (Kw h4 hy)⟩⟩
end
theorem Jy (k:Nat):Builtin.zeroCells #[.int .u8 0] k=AS (List.replicate k 0):=by
 unfold Builtin.zeroCells AS;apply Array.ext';simp only[List.size_toArray,List.length_cons,List.length_nil,Nat.zero_add,Nat.mul_one,Array.toList_map,Array.toList_range,List.map_replicate];apply List.ext_getElem
 · simp
 intro i h1 h2;simp[Nat.mod_one,bv]
theorem TP (a b:List UInt8):AS a++AS b=AS (a++b):=by simp[AS]
theorem FJ {P:Program} (w:World) (t ty e:TypeId) (he:e=5) (i:TypeInfo) (ht:P.underlying t=some (.slice e)) (hi:P.info? e=some i) (hz:i.zero=some (.int .u8 0)) (hsize:i.size=1) (hby:i.bytes=1)
 (xv:Value) (bs:List UInt8) (hb:Bytes w xv bs) (hlen:bs.length≤140737488355328) :
 ∃v' w',(Builtin.append_ #[t,t] ty #[.slice none 0 0,xv]).run P w=.ok v' w'∧BA w' w.heap.size v' bs∧AN w w':=by
 subst he;obtain⟨ao,cap,rfl,hcap,hcm,hat⟩:=hb;cases bs with
 | nil =>
  refine⟨_,w,run_append_nothing w t t ty _ i ht hi none 0 0 (Nat.le_refl _) _ ?_,.inl ⟨rfl,rfl⟩,Ch.refl _ _⟩;cases ao with
  | none=>exact Src.ofNil w ht cap
  | some ad=>exact Src.ofSlice w ht ad 0 cap [] (by simp) (fun j u h=>by simp at h) (fun u h=>by cases h)
 | cons x bs =>
  obtain⟨g,off,rfl,_⟩:=hat 0 x rfl
  have hnews:∀j u,((x::bs).map bv)[j]?=some u→w.cell? ((⟨g,off,none⟩:Addr).add j)=some u:=fun j u hu=>by
   rw[List.getElem?_map] at hu;obtain⟨y,hy,rfl⟩:=Option.map_eq_some_iff.1 hu;obtain⟨g',o',he,hc⟩:=hat j y hy;cases he;rw[add_plain];exact hc
  have hr:=run_append_nil (P:=P) w t ty _ i (.int .u8 0) ht hi hz ⟨g,off,none⟩ (x::bs).length cap ((x::bs).map bv) (by simp[hsize]) hnews (by simp) (by omega) (by rw[hby];omega);have hge:=grownCap_ge w (x::bs).length 0 5;have hcm2:grownCap w (x::bs).length 0 5≤maxLen:=grownCap_le_maxLen w _ 0 _ (by unfold maxLen;omega);obtain⟨C,hC⟩:∃C,C=grownCap w (x::bs).length 0 5:=⟨_,rfl⟩
  rw[←hC] at hr hge hcm2;refine⟨_,_,hr,.inr ⟨w.heap.size,C,(x::bs)++List.replicate (C-(x::bs).length) 0,rfl,Nat.le_refl _,?_,?_,?_,hcm2,hge⟩,((Ch.refl _ _).drew).alloc _⟩
  · rw[show(Value.int .u8 0).cells=#[.int .u8 0] from rfl,Jy,show((x::bs).map bv).toArray=AS (x::bs) from rfl,TP]
    exact heap_alloc_new w.drew _
  · rw[List.length_append,List.length_replicate];omega
  exact List.take_left
theorem FY {w:World} {a b:Value} {xs ys:List UInt8} (ha:Bytes w a xs) (hb:Bytes w b ys) :
 Calls Tryz.prog 40 #[a,b] w fun e w'=>e=.returned (.bool (decide (xs=ys)))∧w'=w:=by
 have c1:=Cb ha;have c2:=Cb hb;obtain⟨ao,ca,rfl,_⟩:=ha.form;obtain⟨bo,cb,rfl,_⟩:=hb.form;obtain⟨A,hA⟩:∃A,A=GF xs:=⟨_,rfl⟩
 obtain⟨B,hB⟩:∃B,B=GF ys:=⟨_,rfl⟩
 have hq:(A.toList == B.toList)=decide (xs=ys):=by rw[hA,hB];exact ME xs ys
 rw[←hA] at c1;rw[←hB] at c2;obtain⟨r,hr⟩:∃r,r=decide (xs=ys):=⟨_,rfl⟩
 rw[←hr] at hq ⊢;clear hA hB ha hb hr;go_enter Tryz.func40,Tryz.ntmps40;go_wp2;go_ret;exact⟨by first|rw[hq]|rfl,rfl⟩
def Ew (x:UInt8):UInt8:=x ^^^ 90
theorem Lb (x:UInt8):bits .xor .u8 (x.toNat:Int) 90=((Ew x).toNat:Int):=NM x 90
theorem IJ {w:World} {n0:Nat} {v:Value} {bs:List UInt8} (h:BA w n0 v bs) :
 Calls Tryz.prog 87 #[v] w fun e w'=>(∃u,e=.returned u)∧Ch (fun k=>v.ownBlock=some k) w w':=by
 rcases h with⟨rfl,rfl⟩|⟨g,c,all,rfl,h1,h2,h3,h4,h5,h6⟩
 · have hs:∀w0:World,(Instr.sliceAt 29 (.slice none 0 0) none (some (.int .i64 0)) none).run Tryz.prog w0=.ok (.slice none 0 0) w0:=fun w0=>by kernel_rfl
   go_enter Tryz.func87,Tryz.ntmps87;go_wp2;go_loopw [3] (fun i wr=>i=.int .i64 0∧wr=w) (fun i _=>0)
   case atStart=>exact⟨rfl,rfl⟩
   obtain⟨rfl,rfl⟩:=hrel;go_wp2;go_end0;exact⟨⟨_,rfl⟩,Ch.refl _ _⟩
 obtain⟨m,hm⟩:∃m,m=bs.length:=⟨_,rfl⟩
 rw[←hm] at h6;have hmc:m≤c:=h6
 have hs:∀w0:World,(Instr.sliceAt 29 (.slice (some ⟨g,0,none⟩) m c) none (some (.int .i64 (c:Int))) none).run Tryz.prog w0=.ok (.slice (some ⟨g,0,none⟩) c c) w0:=fun w0=>by
  have ht:Tryz.prog.underlying 29=some (.slice (Tryz.prog.elem 29)):=by kernel_rfl
  rw[run_sliceAt_slice w0 _ _ _ _ _ ht,run_slice_h w0 _ (some ⟨g,0,none⟩) m c ht .i64 (c:Int) (by omega) (by omega)];obtain⟨z,hz⟩:∃z,(sizeOf (Tryz.prog.elem 29)).run Tryz.prog w0=.ok z w0:=⟨1,by kernel_rfl⟩
  have e:(Value.slice (if c=0 then some ⟨g,0,none⟩ else (some ⟨g,0,none⟩:Option Addr).map (·.add (0*z))) (c-0) (c-0))=.slice (some ⟨g,0,none⟩) c c:=by
   rw[Nat.zero_mul,Nat.sub_zero]
   congr 1
   split<;>rfl
  simp only[hz,sliced,Int.toNat_natCast,e,Result.andThen_ok]
 have hcm:(c:Int)≤9223372036854775807:=by unfold maxLen at h5;omega
 have HAll:=(hIq h2 h3)
 rw[←hm];clear h1 h2 h3 h4 h5 h6 hm hmc;go_enter Tryz.func87,Tryz.ntmps87;go_wp2;go_loopw [3] (fun i wr=>∃(k:Nat) (l:List UInt8),k≤c∧i=.int .i64 k∧wr.heap[g]?=some (.cells (AS l) 5 (0,0))∧l.length=c∧Ch (fun j=>j=g) w wr) (fun i _=>c-(intOf i).toNat)
 case atStart=>exact⟨0,all,Nat.zero_le _,rfl,HAll.out.1,HAll.out.2,Ch.refl _ _⟩
 obtain⟨k,l,hk,rfl,hrow,hl,hch⟩:=hrel;by_cases hlt:k<c
 · obtain⟨x,hx⟩:∃x,l[k]?=some x:=⟨_,List.getElem?_eq_getElem (by omega)⟩
   have c1:wr.cell? ⟨g,k,none⟩=some (bv x):=AH hrow (by unfold AS;rw[List.getElem?_toArray,List.getElem?_map,hx];rfl);have f1:=Ai hrow k;have hb:=Lb x;have hkc:(k:Int)<(c:Int):=by omega
   have hset:=AV hrow k (bv (Ew x))
   have hbr:(AS l).setIfInBounds k (bv (Ew x))=AS (l.set k (Ew x)):=by
    apply Array.ext';simp[AS,List.map_set]
   rw[hbr] at hset;have HS:=(hIq hset (aIq hl hch))
   generalize Ew x=y at hb HS;clear hrow hx hset hbr hl hch hk;go_wp2;go_roundw
   case rel=>exact⟨k+1,_,by omega,by first|rfl|simp,HS.out.1,by rw[List.length_set];exact HS.out.2.1,HS.out.2.2.setCell (p:=⟨g,k,none⟩) (.inl rfl) _⟩
   simp[intOf];omega
 obtain rfl:k=c:=by omega
 have HC:=Lib.hid hch;clear hrow hl hch hk hlt;go_wp2;go_end0;exact⟨⟨_,rfl⟩,HC.out.mono (fun j _ hj=>by rw[hj];rfl)⟩
end Go.Proofs.YtngbdbpofifimaaGreat.Store
namespace Go.Proofs.YtngbdbpofifimaaGreat.Store
open Go.RowKit Go.Proofs.YtngbdbpofifimaaGreat.ShaW Go.Proofs.YtngbdbpofifimaaGreat.Path Go.Proofs.YtngbdbpofifimaaGreat.Bk
section
variable {P : Program}
theorem IY {w:World} {ops:Array Oper} {rest:List Oper} {o:Oper} {a:Act} {Q:Exit→Act→World→Prop} (hgd:o.guard=none) (s x:Operand) (t:TypeId)
 (ho:o.op=.call { callee:=.builtin .append,args:=#[s,x],argTypes:=#[t,t] }) (e:TypeId) (he:e=5) (i:TypeInfo) (ht:P.underlying t=some (.slice e)) (hi:P.info? e=some i) (hz:i.zero=some (.int .u8 0)) (hsize:i.size=1) (hby:i.bytes=1)
 (hs:a.eval s=.slice none 0 0) (xv:Value) (hx:a.eval x=xv) (bs:List UInt8) (hb:Bytes w xv bs) (hlen:bs.length≤140737488355328)
 (h:∀v' w',BA w' w.heap.size v' bs→AN w w'→wpList P ops Q rest (a.put o.dst v') w'):wpList P ops Q (o::rest) a w :=
 wpList_plain hgd fun _ hK=>by
  obtain⟨v',w',hrun,r1,r2⟩:=FJ w t o.type e he i ht hi hz hsize hby xv bs hb hlen;unfold Oper.wp;simp[execOp,ho,resolve,invoke,builtin,hs,hx,hrun,Result.andThen];exact hK _ _ (h v' w' r1 r2)
end
theorem QL {w:World} {s:Nat} {F:Nat→Prop} {σ:AG Nd} (h:At w s F σ) (n:Int) :
 Calls Tryz.prog 163 #[.pointer (some ⟨s,0,none⟩),.int .i64 n] w fun e w'=>∃v,e=.returned v∧BA w' w.heap.size v (nd σ n).value∧AN w w':=by
 have hok:=h.ok n;have hg:=Cu h n;have hbb:=h.bytes n;obtain⟨N,Z,hN,hn,hz⟩:=told h n;rw[←hN] at hg;have k0:N[66]?=some (nd σ n).addr:=by rw[hN];exact Nd.PV hok
 have hvl:=hok.val;obtain⟨i0,hi,hz0,hz1,hz2⟩:=Mz;obtain⟨ao,len,cap,hA⟩:=hok.addr;rw[hA] at k0 hbb;generalize (nd σ n).value=bs at hbb hvl;have HG:=Lib.hid hg;have HN:=Lib.hid hn;have HZ:=Lib.hid hz;have HB:=Lib.hid hbb;have HI:=(hIq hi (aIq hz0 (aIq hz1 hz2)))
 have HV:=Lib.hid hvl;clear hok hg hN hn hz h hbb hi hz0 hz1 hz2 hA hvl;go_enter Tryz.func163,Tryz.ntmps163;go_wp2_with fail;refine HG.out.mono ?_;rintro e w1 ⟨rfl,hc1⟩;have c0:=AH (AK (heap_alloc_new w1 (.cells Z 168)) N) k0;have C1:=Lib.hid hc1;clear hc1 k0
 go_wp2_with (first
  | ((with_reducible show zOq (.alloc 168));refine AO rfl 168 rfl (.agg Z) HZ.out.1 ?_;dsimp only[Value.cells];try simp only[World.size_alloc])
  | ((with_reducible show zOq (.store 168 (.tmp 5) _));go_must (refine AI rfl 168 _ _ rfl w1.heap.size 0 N rfl rfl (heap_alloc_new _ _) (by rw[BW,HN.out.1]) (by rw[HN.out.1,HZ.out.2];omega) HN.out.2 N (by rw[AT _ _ (by rw[Array.length_toList,Array.length_toList,HN.out.1,HZ.out.2])]) ?_))
  | (at_builtin;refine IY rfl _ _ 29 rfl 5 rfl i0 Tryz.underlying29 HI.out.1 HI.out.2.1 HI.out.2.2.1 HI.out.2.2.2 rfl _ rfl bs (HB.out.Ae ((C1.out.alloc _).setRow (.inr C1.out.size) _) (fun _ _ h=>h)) (by have:=HV.out;omega) ?_;intro v' w2 hb2 hc2;have HB2:=(hIq hb2 hc2);clear hb2 hc2))
 go_ret;refine⟨_,rfl,HB2.out.1.base (fun k hk=>?_),((C1.out.alloc _).setRow (.inr C1.out.size) _).trans HB2.out.2 (fun _=>fEq)⟩;have:=(HB2.out.1.lt k hk).1;have:=C1.out.size;simp at *;omega
end Go.Proofs.YtngbdbpofifimaaGreat.Store
