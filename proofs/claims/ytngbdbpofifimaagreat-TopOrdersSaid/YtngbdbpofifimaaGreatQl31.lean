/- Laws of the layers below. -/
import Derived.Test.YtngbdbpofifimaaGreatQl30
set_option maxHeartbeats 3200000
set_option maxRecDepth 100000
set_option linter.unusedVariables false
namespace Go.Proofs.YtngbdbpofifimaaGreat.Law9
open Go.RowKit Go.Sort Go.Proofs.YtngbdbpofifimaaGreat.ShaW Go.Proofs.YtngbdbpofifimaaGreat.Path Go.Proofs.YtngbdbpofifimaaGreat.Store
theorem T1 {σ:AD Nd} (G:Store.Good σ) {o:Int} {x:Nd} {d:Nat} {tl tr:Tr} (hx:sk σ o=some x) (hk:x.kind=2) (rl:Rep (sk σ) x.left d tl) (rr:Rep (sk σ) x.right d tr):Lu tl tr=.node tl tr:=by
 have hz:=G.fit.zero;have hf:=(G.fit.inner hx hk).fits;have zl:=(rl.Hv hz).trans E4.symm;have zr:=(rr.Hv hz).trans E4.symm;unfold Lu;rw[if_neg,if_neg]
 · rintro⟨h1,h2⟩
   have:=(rl.Wp hz).1 (Kd hf (zr.2 h1)).2;rw[h2] at this;cases this
 rintro⟨h1,h2⟩;have:=(rr.Wp hz).1 (Fi hf (zl.2 h1)).2;rw[h2] at this;cases this
theorem PV {σ:AD Nd} (G:Store.Good σ) {old:Int} {k:List UInt8} {d:Nat} {L:AS} (hd:d≤256) (hL:AS.Ok L k d) (hr:Rep (sk σ) old d (tree (256-d) L)) (hk2:(nd σ old).kind=2):d<256:=by
 have hnode:=(GB G.fit.zero hr).1 hk2;have h2:2≤L.length:=(Ed (m:=256-d) (by rw[show 256-(256-d)=d by omega];exact hL)).1 hnode;rcases Nat.lt_or_ge d 256 with h|h
 · exact h
 rw[show d=256 by omega] at hL;have:=hL.few;omega
theorem NP {w0 w:World} {s:Nat} {σ:AD Nd} {G:Nat→Prop} {la:Option Addr} {cap:Nat} {l:List Wm} {old:Int} {k:List UInt8} {d:Nat} {L:AS} (hd:d≤256) (h:Ow w0 w s σ G) (GG:Store.Good σ) (H:BuOk G w σ la cap l old k d L) (hf:l = []∨(nd σ old).kind≠2) :
 Calls Tryz.prog 138 #[.pointer (some ⟨s,0,none⟩),.int .i64 old,.int .i64 (d:Nat),.slice la l.length cap] w
  (MA w0 w s σ G k d (tree (256-d) (CT L (l.map Wm.wp))) ((257-d)*l.length) (3*((257-d)*l.length)+1)):=by
 by_cases hl:l = []
 · subst hl
   exact RU h GG H
 exact JE hd h GG H (List.length_pos_iff.2 hl) (hf.resolve_left hl)
theorem VM.bu1 {G:Nat→Prop} {w w':World} {σ:AD Nd} {la:Option Addr} {cap:Nat} {l:List Wm} {old:Int} {k k1 k2:List UInt8} {d n:Nat} {L:AS} {x:Nd} (T:VM G w σ l x k k1 k2 d n L) (H:BuOk G w σ la cap l old k d L) (hn:n≤l.length) (h0:0<l.length) (hb:But G w w') :
 BuOk G w' σ la cap (l.take n) x.left k1 (d+1) (sideE 0 d L):=by
 have ht:(l.take n).length=n:=by rw[List.length_take];omega
 have hc:=H.cap.resolve_right (fun e=>by rw[e] at h0;cases h0);have hf:=H.few;have h1:(257-(d+1))*n≤(257-d)*l.length:=Nat.mul_le_mul (by omega) hn;have hr:=H.room;have htt:=H.total;refine⟨(H.row.but hb).take n,.inl (by omega),by omega,T.keys.1.1,T.wok.1,by rw[List.map_take];exact H.rise.take n,fun y hy=>H.val y (List.mem_of_mem_take hy),T.lok.1,T.pre.1,T.rep.1,by rw[ht];omega,by rw[ht];omega⟩
theorem VM.bu2 {G:Nat→Prop} {w w':World} {σ σ1:AD Nd} {la:Option Addr} {cap:Nat} {l:List Wm} {old r1:Int} {k k1 k2:List UInt8} {d n:Nat} {L:AS} {x:Nd} {t1:Tr} (T:VM G w σ l x k k1 k2 d n L) (H:BuOk G w σ la cap l old k d L) (hn:n≤l.length) (h0:0<l.length) (hb:But G w w')
 (GG:Store.Good σ) (B:Bt σ σ1 k1 r1 (d+1) t1 ((257-(d+1))*n) (3*((257-(d+1))*n)+1)) :
 BuOk G w' σ1 (PA 34 la cap n) (cap-n) (l.drop n) x.right k2 (d+1) (sideE 1 d L):=by
 have ht:(l.drop n).length=l.length-n:=List.length_drop ..;have hc:=H.cap.resolve_right (fun e=>by rw[e] at h0;cases h0);have hf:=H.few;have hd1:=T.d1
 have h1:(257-(d+1))*n+(257-(d+1))*(l.length-n)+l.length≤(257-d)*l.length:=by
  rw[←Nat.mul_add,show n+(l.length-n)=l.length by omega,show 257-d=257-(d+1)+1 by omega,Nat.succ_mul];exact Nat.le_refl _
 have hr:=H.room;have htt:=H.total;have b1:=B.live;have b2:=B.total;have b3:=B.room;refine⟨(H.row.but hb).drop n cap hc,.inl (by omega),by omega,T.keys.2.1,T.wok.2,by rw[List.map_drop];exact H.rise.drop n,fun y hy=>H.val y (List.mem_of_mem_drop hy),T.lok.2,fun y hy=>?_,T.rep.2.grow B.old,by rw[ht,b3];omega,by rw[ht];omega⟩;rcases T.rep.2.live with e|⟨z,hz⟩
 · rw[e,B.good.fit.zero] at hy;cases hy
 have:=B.old _ _ hz;rw[this] at hy;cases hy;exact T.pre.2 _ hz
theorem Vn:∀(m d:Nat),d+m=256→∀ {w0 w:World} {s:Nat} {σ:AD Nd} {G:Nat→Prop} {la:Option Addr} {cap:Nat} {l:List Wm} {old:Int} {k:List UInt8} {L:AS},Ow w0 w s σ G→Store.Good σ→BuOk G w σ la cap l old k d L →
 Calls Tryz.prog 138 #[.pointer (some ⟨s,0,none⟩),.int .i64 old,.int .i64 (d:Nat),.slice la l.length cap] w
  (MA w0 w s σ G k d (tree (256-d) (CT L (l.map Wm.wp))) ((257-d)*l.length) (3*((257-d)*l.length)+1)):=by
 intro m
 induction m with
 | zero =>
  intro d hd w0 w s σ G la cap l old k L h GG H;refine NP (by omega) h GG H (.inr fun e=>?_);have:=PV GG (by omega) H.lok H.rep e;omega
 | succ m ih =>
  intro d hd w0 w s σ G la cap l old k L h GG H;by_cases hf:l = []∨(nd σ old).kind≠2
  · exact NP (by omega) h GG H hf
  have hl0:0<l.length:=List.length_pos_iff.2 fun e=>hf (.inl e)
  have hk2:(nd σ old).kind=2:=by
   by_cases e:(nd σ old).kind=2
   · exact e
   exact absurd (.inr e) hf
  have hd1:=PV GG (by omega) H.lok H.rep hk2
  obtain⟨x,hx⟩:∃x,sk σ old=some x:=by
   cases hx:sk σ old with
   | none=>have:=Ez hx;rw[this] at hk2;cases hk2
   | some x=>exact⟨x,rfl⟩
  have hxk:x.kind=2:=by rw[←Ci hx];exact hk2
  obtain⟨a,ha⟩:∃a,a=x.left:=⟨_,rfl⟩
  obtain⟨b,hb⟩:∃b,b=x.right:=⟨_,rfl⟩
  obtain⟨F,hAt⟩:=h.at;have hkd:=fun w1 (a:Adds w w1)=>E3 (hAt.adds a) old
  have hsd:=fun w1 (a:Adds w w1)=>IE (hAt.adds a) old
  have hpt:=fun w1 (a:Adds w w1)=>ME cap (H.row.at_.adds a) (by have:=H.few;omega) d hd1
  rw[hk2] at hkd;rw[JW hx,IF hx, ←ha, ←hb] at hsd;obtain⟨len,hlen⟩:∃len,len=l.length:=⟨_,rfl⟩
  rw[←hlen] at hpt;have hn0:¬(len:Int)=0:=by omega
  have hwd:wrap64 ((d:Int)+1)=(d:Int)+1:=by unfold wrap64;omega
  have hcap:=H.cap.resolve_right (fun e=>hf (.inl e));have HW:=(hIq hkd (aIq hsd hpt))
  have HH:=(hIq h (aIq GG (aIq H hk2)))
  have HX:=(hIq hx (aIq hxk (aIq ha hb)))
  have HL:=(hIq hlen (aIq hl0 (aIq hcap hd1)))
  have HIH:=(hIq ih hd)
  rw[←hlen];clear h GG H hAt hkd hsd hpt hlen hl0 hf hk2 hd1 hx hxk ha hb hcap ih hd;go_enter Tryz.func138,Tryz.ntmps138;go_wp2_with fail;refine(HW.out.1 w (Ch.refl _ _)).mono ?_;rintro e w1 ⟨rfl,a1⟩;have A1:=Lib.hid a1;clear a1;go_wp2_with fail;refine(HW.out.2.2 w1 A1.out).mono ?_;rintro e w2 ⟨a2,n,rfl,hnl,p0,p1⟩;obtain⟨x',k1,k2,hx',_,hxd,T⟩:=TG HH.out.2.1 HH.out.2.2.1 HH.out.2.2.2 (by have:=HL.out.1;omega) p0 p1;rw[HX.out.1] at hx';injection hx' with hx';subst hx';have A2:=Lib.hid (A1.out.trans a2 (fun _=>fEq));have HT:=(hIq T (aIq hxd hnl))
  have hsh:=fun w0=>Pd w0 la len cap n (by have:=HL.out;omega)
  have hsl:=fun w0=>P2 w0 la len cap n (by have:=HL.out;omega)
  clear T hxd hnl p0 p1 a2;go_wp2_with fail;refine(HW.out.2.1 w2 A2.out).mono ?_;rintro e w3 ⟨rfl,a3⟩;have hA3:=A2.out.trans a3 (fun _=>fEq);have hnl':n≤l.length:=by have:=HT.out.2.2;have:=HL.out.1;omega
  have hB1:=HT.out.1.bu1 HH.out.2.2.1 hnl' HL.out.2.1 (Adds.but hA3);rw[←HX.out.2.2.1] at hB1;have hi1:=HIH.out.1 (d+1) (by have:=HIH.out.2;omega) (HH.out.1.adds hA3) HH.out.2.1 hB1;have ht1:(l.take n).length=n:=by rw[List.length_take];omega
  have ht2:(l.drop n).length=len-n:=by rw[List.length_drop,HL.out.1]
  rw[ht1,show((d+1:Nat):Int)=(d:Int)+1 by omega] at hi1;have HI1:=Lib.hid hi1;have A3:=(hIq hA3 (aIq hnl' (aIq ht1 ht2)))
  clear a3 hA3 hnl' hB1 hi1 ht1 ht2;go_wp2_with fail;refine HI1.out.mono ?_;rintro e w4 ⟨r1,σ1,rfl,o1,bt1,B1⟩;have hb4:=(Adds.but A3.out.1).then bt1;have hB2:=HT.out.1.bu2 HH.out.2.2.1 A3.out.2.1 HL.out.2.1 hb4 HH.out.2.1 B1;rw[←HX.out.2.2.2] at hB2;have hi2:=HIH.out.1 (d+1) (by have:=HIH.out.2;omega) o1 B1.good hB2;rw[A3.out.2.2.2,show((d+1:Nat):Int)=(d:Int)+1 by omega] at hi2;have HI2:=Lib.hid hi2;have H4:=(hIq hb4 B1)
  clear hb4 hB2 hi2 o1 bt1 B1;go_wp2_with fail;refine HI2.out.mono ?_;rintro e w5 ⟨r2,σ2,rfl,o2,bt2,B2⟩
  have hcost:(257-(d+1))*n+(257-(d+1))*(len-n)+len≤(257-d)*len:=by
   rw[←Nat.mul_add,show n+(len-n)=len by have:=HT.out.2.2;omega,show 257-d=257-(d+1)+1 by have:=HL.out;omega,Nat.succ_mul];exact Nat.le_refl _
  obtain⟨c1,hc1⟩:∃c,c=(257-(d+1))*n:=⟨_,rfl⟩
  obtain⟨c2,hc2⟩:∃c,c=(257-(d+1))*(len-n):=⟨_,rfl⟩
  obtain⟨c,hc⟩:∃c,c=(257-d)*len:=⟨_,rfl⟩
  have B1:=H4.out.2;have hroom:=HH.out.2.2.1.room;have htot:=HH.out.2.2.1.total;rw[←HL.out.1] at hroom htot;rw[←hc1] at B1 hcost;rw[←hc2] at B2 hcost;rw[←hc] at hcost hroom htot ⊢;have hlp:0<len:=by have:=HL.out;omega
  have H5:=(hIq o2 (aIq (H4.out.1.then bt2) (aIq B1 B2)))
  have HC:=(hIq hcost (aIq hroom (aIq htot (aIq hlp hc))))
  clear o2 bt2 B1 B2 hcost hroom htot hc1 hc2 hlp hc;have hjo:=Nb H5.out.1 (d:Int) r1 r2;have hbt:=Bt.WV HH.out.2.1 (by have:=HL.out;omega) H5.out.2.2.1 H5.out.2.2.2 HT.out.1.keys.1.2.1 HT.out.1.keys.1.2.2 HT.out.1.keys.2.2.1 HT.out.1.keys.2.2.2 (by have:=HC.out;omega);rw[HT.out.1.join] at hbt;have HJ:=(hIq hjo hbt)
  clear hjo hbt;by_cases e1:r1=a
  · by_cases e2:r2=b
    · have HE:=(hIq e1 e2)
      obtain⟨i0,p1,p2,p3,p4⟩:=Su;have HI:=(hIq p1 (aIq p2 p3))
      clear p1 p2 p3 p4 HJ;have q1:(r1 == a)=true:=by rw[e1];exact beq_self_eq_true a
      have q2:(r2 == b)=true:=by rw[e2];exact beq_self_eq_true b
      have q3:decide (r1=a)=true:=decide_eq_true e1;have q4:decide (r2=b)=true:=decide_eq_true e2;clear e1 e2
      go_wp2_with (first
       | fail
       | ((with_reducible show zOq (.buildSlice 61 _ _));refine Mc rfl 61 _ _ rfl 3 i0 (.int .i64 0) (.int .i64 r1) (.int .i64 r2) rfl rfl Tryz.underlying61 HI.out.1 HI.out.2.1 (by rw[HI.out.2.2];decide) (by rw[HI.out.2.2];decide) (by rw[HI.out.2.2];rfl) (by rw[HI.out.2.2];rfl) ?_;simp only[Value.cells,List.append_toArray,List.cons_append,List.nil_append]))
      refine BJ (fun w6 hw6=>?_);have a6:Adds w5 w6:=by rw[hw6];exact(Ch.refl _ _).alloc _
      have r6:w6.heap[w5.heap.size]?=some (.cells #[.int .i64 r1,.int .i64 r2] 3 (0,0)):=by rw[hw6];exact heap_alloc_new _ _
      obtain⟨G',hG'⟩:∃G':Nat→Prop,G'=fun k=>G k∨k=w5.heap.size:=⟨_,rfl⟩
      have o6:Ow w0 w6 s σ2 G':=H5.out.1.more a6 (fun k hk=>by rw[hG'] at hk;exact hk.elim .inl (fun e=>.inr ⟨Nat.le_of_eq e.symm,by rw[e];exact Ac r6⟩));have H6:=(hIq o6 (aIq r6 (aIq a6 hG')))
      clear a6 r6 o6 hG' hw6;go_loopg [19,103] 2 (fun g s19 s103 wr=>∃j:Nat,s103=.int .i64 j∧j+g=2∧Ow w0 wr s (Hx σ2 r1 r2 j) G'∧But G' w6 wr)
      case atStart=>exact⟨0,rfl,rfl,H6.out.1,Ch.refl _ _⟩
      obtain⟨j,rfl,hj,ho,hbr⟩:=hrel;have HS:=(hIq ho (aIq hbr hj))
      by_cases hj2:j=2
      · have hx1:decide ((j:Int)<2)=false:=decide_eq_false (by omega)
        have hkp:=N1 ho old;have hbt:=Bt.same (key:=k) HH.out.2.1 H5.out.2.2.1 H5.out.2.2.2 HX.out.1 HX.out.2.1 HT.out.2.1 (HX.out.2.2.1.symm.trans HE.out.1.symm) (HX.out.2.2.2.symm.trans HE.out.2.symm) (HH.out.2.2.1.pre _ HX.out.1) (by have:=HC.out;omega);have hx2:=H5.out.2.2.2.old _ _ (H5.out.2.2.1.old _ _ HX.out.1);have hsn:=T1 H5.out.2.2.2.good hx2 HX.out.2.1 (by rw[←HX.out.2.2.1, ←HE.out.1];exact H5.out.2.2.1.rep.grow H5.out.2.2.2.old) (by rw[←HX.out.2.2.2, ←HE.out.2];exact H5.out.2.2.2.rep);rw[←hsn,HT.out.1.join] at hbt;rw[hj2] at hkp;have HK:=(hIq hkp hbt)
        clear ho hbr hj hj2 hkp hbt hx2 hsn;go_wp2_with fail;refine HK.out.1.mono ?_;rintro e w7 ⟨rfl,o7,b7⟩;have H7:=(hIq o7 (HS.out.2.1.then b7))
        clear o7 b7;go_wp2;go_ret;have hless:∀k,G k→G' k:=fun k hk=>by rw[H6.out.2.2.2];exact .inl hk
        exact⟨old,_,rfl,H7.out.1.less hless,H5.out.2.1.then ((Adds.but H6.out.2.2.1).then (H7.out.2.less hless)),HK.out.2.Ik (by have:=HC.out;omega) (by have:=HC.out;omega)⟩
      have hx1:decide ((j:Int)<2)=true:=decide_eq_true (by omega);have hj3:(j:Int)<2:=by omega
      have hjn:j<2:=by omega
      have hwk:wrap64 ((j:Int)+1)=(j:Int)+1:=by unfold wrap64;omega
      obtain⟨v,hv⟩:∃v,v=(if j=0 then r1 else r2):=⟨_,rfl⟩
      have hcell:wr.cell? ⟨w5.heap.size,j,none⟩=some (.int .i64 v):=by
       refine AH (hbr.row H6.out.2.1 (by rw[H6.out.2.2.2];exact .inr rfl)) ?_;rw[hv]
       match j,hjn with
       | 0,_=>rfl
       | 1,_=>rfl
      have hnx:=RL σ2 r1 r2 hjn;rw[←hv] at hnx;by_cases hv0:v=0
      · have HN:RowKit.Hid (Hx σ2 r1 r2 (j+1)=Hx σ2 r1 r2 j):=Lib.hid (by rw[hnx,if_neg (fun h=>h hv0)])
        subst hv0;clear hv hnx ho hbr hj hj2;go_wp2_with fail;go_roundg (gk-1)
        case measure=>have:=HS.out.2.2;omega
        exact⟨j+1,by first|(simp;done)|(simp[hwk];done),by have:=HS.out.2.2;omega,by rw[HN.out];exact HS.out.1,HS.out.2.1⟩
      have hdr:=ho.drop v;have HN:RowKit.Hid (Hx σ2 r1 r2 (j+1)=(An (Hx σ2 r1 r2 j) v).2.2):=Lib.hid (by rw[hnx,if_pos hv0]);have HD:=Lib.hid hdr;clear hv hnx ho hbr hj hj2 hdr;go_wp2_with fail;refine HD.out.mono ?_;rintro e w7 ⟨rfl,o7,b7⟩;have H7:=(hIq o7 (HS.out.2.1.then b7))
      clear o7 b7;go_wp2_with fail;go_roundg (gk-1)
      case measure=>have:=HS.out.2.2;omega
      exact⟨j+1,by first|(simp;done)|(simp[hwk];done),by have:=HS.out.2.2;omega,by rw[HN.out];exact H7.out.1,H7.out.2⟩
    have q1:(r1 == a)=true:=by rw[e1];exact beq_self_eq_true a
    have q2:(r2 == b)=false:=by simpa using e2
    have q3:decide (r1=a)=true:=decide_eq_true e1;have q4:decide (r2=b)=false:=decide_eq_false e2;clear e1;go_wp2_with fail;refine HJ.out.1.mono ?_;rintro e w6 ⟨rfl,o6,b6⟩;have H6:=(hIq o6 (H5.out.2.1.then b6))
    clear o6 b6;go_wp2;go_ret;exact⟨_,_,rfl,H6.out.1,H6.out.2,HJ.out.2.Ik (by have:=HC.out;omega) (by have:=HC.out;omega)⟩
  have q1:(r1 == a)=false:=by simpa using e1
  have q3:decide (r1=a)=false:=decide_eq_false e1;go_wp2_with fail;refine HJ.out.1.mono ?_;rintro e w6 ⟨rfl,o6,b6⟩;have H6:=(hIq o6 (H5.out.2.1.then b6))
  clear o6 b6;go_wp2;go_ret;exact⟨_,_,rfl,H6.out.1,H6.out.2,HJ.out.2.Ik (by have:=HC.out;omega) (by have:=HC.out;omega)⟩
theorem Wm.LJ {x:Wm}:(x.bare.gone=x.gone)∧(x.gone=false→x.bare=x)∧(x.bare.val ≠ []→x.bare=x):=by
 unfold Wm.bare;cases h:x.gone with
 | true=>exact⟨rfl,fun e=>(by cases e),fun e=>absurd rfl e⟩
 | false=>exact⟨h,fun _=>rfl,fun _=>rfl⟩
theorem Ce.mem {l l':List Wm} (h:Ce l l'):∀y∈l',∃x∈l,y=x.bare:=fun y hy=>by
 obtain⟨out,h1,h2⟩:=h.ex;exact h1.mem y (h2.mem_iff.1 hy)
theorem Ce.len {l l':List Wm} (h:Ce l l'):l'.length≤l.length:=by
 obtain⟨out,h1,h2⟩:=h.ex;rw[h2.length_eq];exact h1.len
theorem Ce.nodup {l l':List Wm} (h:Ce l l'):(keysOf (l'.map Wm.ent)).Nodup:=by
 obtain⟨out,h1,h2⟩:=h.ex;rw[show keysOf (l'.map Wm.ent)=l'.map (·.key) by simp[keysOf,Wm.ent]];exact(h2.map _).nodup_iff.2 h1.nodup
theorem Ce.same {l a b:List Wm} (ha:Ce l a) (hb:Ce l b):a.length=b.length:=by
 obtain⟨o1,h1,h2⟩:=ha.ex;obtain⟨o2,h3,h4⟩:=hb.ex;rw[h2.length_eq,h4.length_eq];exact((List.perm_ext_iff_of_nodup (Ea h1.nodup) (Ea h3.nodup)).2 fun x=>by rw[h1.spec,h3.spec]).length_eq
def GZ (x:Wm):Bool := !x.gone&&decide (1024<x.val.length)
def DB (σ:AD Nd) (l:List Wm) (n:Nat):Int:=if 64<l.length then 4 else if l.any GZ then 4 else if Cw σ (n:Nat)=true then 0 else 9
theorem XW {w:World} {ao:Option Addr} {l:List Wm} (cap:Nat) (h:Cq w ao l) (hn:l.length≤4096) :
 Calls Tryz.prog 208 #[.slice ao l.length cap] w fun e w'=>Adds w w'∧∃l',Ce l l'∧e=.returned (.int .i64 (l'.length:Nat)):=by
 have hla:=OJ cap h hn;obtain⟨len,hlen⟩:∃len,len=l.length:=⟨_,rfl⟩
 rw[←hlen] at hla ⊢;have HL:=Lib.hid hla;clear hla h hn hlen;go_enter Tryz.func208,Tryz.ntmps208;go_wp2_with fail;refine HL.out.mono ?_;rintro e w1 ⟨l',ao',cap',rfl,_,h1,_,h2,_⟩;have H1:=(hIq h1 h2)
 obtain⟨n,hn⟩:∃n,n=l'.length:=⟨_,rfl⟩
 rw[←hn];have HN:=Lib.hid hn;clear h1 h2 hn;go_wp2;go_ret;exact⟨H1.out.2,l',H1.out.1,by rw[HN.out];rfl⟩
theorem Uj {w:World} {s:Nat} {F:Nat→Prop} {σ:AD Nd} {ao:Option Addr} {l:List Wm} {root:Int} (cap:Nat) (h:At w s F σ) (ha0:De σ root=0) (hl:Cq w ao l) :
 Calls Tryz.prog 137 #[.pointer (some ⟨s,0,none⟩),.int .i64 root,.slice ao l.length cap] w fun e w'=>Adds w w'∧∃n,e=.returned (.int .i64 (DB σ l n))∧(DB σ l n≠4→∃l',Ce l l'∧n=l'.length):=by
 have hro:=Store.Eb h 0;rw[show BS σ 0=0 from rfl] at hro;have hah:=fun w1 (a:Adds w w1)=>EV (h.adds a) root
 rw[ha0] at hah;have hft:=fun(n:Nat) w1 (a:Adds w w1)=>G8 (h.adds a) (n:Nat)
 have hke:=fun w1 (a:Adds w w1) (hn:l.length≤4096)=>XW cap (hl.adds a) hn
 obtain⟨len,hlen⟩:∃len,len=l.length:=⟨_,rfl⟩
 obtain⟨ZP,hZP⟩:∃Z,Z=I1.cells:=⟨_,rfl⟩
 have hz:=RF;rw[←hZP] at hz;have hzs:ZP.size=34:=by rw[hZP];exact Wm.size rfl
 rw[←hlen] at hke ⊢;have HR:=(hIq hro (aIq hah (aIq hft hke)))
 have HP:=Lib.hid hl;have HLN:=Lib.hid hlen;have HZ:=(hIq hz hzs)
 clear hro hah hft hke h ha0 hl hlen hZP hz hzs;by_cases h64:64<len
 · have hx:(64:Int)<(len:Int):=by omega
   have hx1:decide ((64:Int)<(len:Int))=true:=decide_eq_true hx;have HE:RowKit.Hid (DB σ l 0=4):=Lib.hid (by unfold DB;rw[if_pos (by have:=HLN.out;omega)]);have H64:=Lib.hid h64;go_enter Tryz.func137,Tryz.ntmps137;go_wp2_with fail;refine HR.out.1.mono ?_;rintro e w1 ⟨rfl,a1⟩;have A1:=Lib.hid a1;clear a1;go_wp2;go_ret;exact⟨A1.out,0,by rw[HE.out];rfl,fun h=>absurd HE.out h⟩
 have hx:¬(64:Int)<(len:Int):=by omega
 have hx1:decide ((64:Int)<(len:Int))=false:=decide_eq_false hx;have H64:=Lib.hid h64;clear h64;go_enter Tryz.func137,Tryz.ntmps137;go_wp2_with fail;refine HR.out.1.mono ?_;rintro e w1 ⟨rfl,a1⟩;have A1:=Lib.hid a1;clear a1;go_wp2_with fail;go_loopg [8,18] len (fun g s8 s18 wr=>∃k:Nat,s18=.int .i64 k∧k+g=len∧(l.take k).any GZ=false∧Adds w wr)
 case atStart=>exact⟨0,rfl,by omega,rfl,A1.out⟩
 obtain⟨k,rfl,hk,h0,hA⟩:=hrel;have HS:=(hIq hk (aIq h0 hA))
 by_cases hkl:k=len
 · have hx2:decide ((k:Int)<(len:Int))=false:=decide_eq_false (by omega)
   have hx2':decide (k<len)=false:=decide_eq_false (by omega);rw[List.take_of_length_le (by have:=HLN.out;omega)] at h0;have H0:=Lib.hid h0;clear hk h0 hA hkl;go_wp2_with fail;refine(HR.out.2.1 _ HS.out.2.2).mono ?_;rintro e w2 ⟨rfl,a2⟩;have A2:=Lib.hid (HS.out.2.2.trans a2 (fun _=>fEq));clear a2;go_wp2_with fail;refine(HR.out.2.2.2 _ A2.out (by have:=HLN.out;have:=H64.out;omega)).mono ?_;rintro e w3 ⟨a3,l',hlo,rfl⟩;obtain⟨n,hn⟩:∃n,n=l'.length:=⟨_,rfl⟩
   rw[←hn];have H3:=(hIq (A2.out.trans a3 (fun _=>fEq)) (aIq hlo hn))
   clear a3 hlo hn;go_wp2_with fail;refine(HR.out.2.2.1 n _ H3.out.1).mono ?_;rintro e w4 ⟨rfl,rfl⟩
   have HE:RowKit.Hid (DB σ l n=if Cw σ (n:Nat)=true then 0 else 9):=Lib.hid (by
    unfold DB;rw[if_neg (by have:=HLN.out;have:=H64.out;omega),if_neg (by rw[H0.out];simp)])
   cases hf:Cw σ (n:Nat) with
   | true =>
    have HF:=Lib.hid hf;clear hf;go_wp2;go_ret;exact⟨H3.out.1,n,by rw[HE.out,if_pos HF.out];rfl,fun _=>⟨l',H3.out.2⟩⟩
   | false =>
    have HF:=Lib.hid hf;clear hf;go_wp2;go_ret;exact⟨H3.out.1,n,by rw[HE.out,if_neg (by rw[HF.out];simp)];rfl,fun _=>⟨l',H3.out.2⟩⟩
 have hx2:decide ((k:Int)<(len:Int))=true:=decide_eq_true (by omega);have hx2':decide (k<len)=true:=decide_eq_true (by omega);have hkl':k<l.length:=by have:=HLN.out;omega
 have hklen:(k:Int)<(len:Int):=by omega
 have hklen':k<len:=by omega
 have hwk:wrap64 ((k:Int)+1)=(k:Int)+1:=by have:=H64.out;unfold wrap64;omega
 obtain⟨x,hxk⟩:∃x,l[k]?=some x:=⟨_,List.getElem?_eq_getElem hkl'⟩
 obtain⟨g0,off,rfl,hp⟩:=HP.out.row k x hxk;have hg:=HP.out.good x (List.mem_of_getElem? hxk);have hsz:=Wm.size hg.key;obtain⟨cur,ty,fr,c1,c2,c3⟩:=hp;rw[hsz] at c2 c3;obtain⟨C,hC⟩:∃C,C=x.cells:=⟨_,rfl⟩
 have hone:=Wm.one hg;have hgn:=Wm.LC hg.key;have hvl:=Wm.Hc hg.key;obtain⟨xo,xc,hxv,_,_⟩:=hg.val.form;obtain⟨xn,hxn⟩:∃n,n=x.val.length:=⟨_,rfl⟩
 rw[hxv, ←hxn] at hvl;rw[←hC] at c3 hsz hone hgn hvl;have HC:=(hIq (hA.row c1 id) (aIq c2 (aIq c3 (aIq hsz hone))))
 have htk:l.take (k+1)=l.take k ++ [x]:=by rw[List.take_add_one,hxk];rfl
 have hlw:GZ x=(!x.gone&&decide (1024<xn)):=by rw[hxn];rfl
 obtain⟨gb,hgb⟩:∃gb,gb=x.gone:=⟨_,rfl⟩
 rw[←hgb] at hgn hlw;have HX:=(hIq hxk (aIq htk (aIq hlw (aIq hgn hvl))))
 clear hk h0 hA hkl hxk hg hsz c1 c2 c3 hC hone htk hgn hvl hlw hxv hxn hgb
 go_upto_region 8 with(first
  | fail
  | ((with_reducible show zOq (.load 134 _));refine AG rfl 134 _ rfl g0 (off+k*34) rfl HC.out.1 Tryz.underlying134 rfl Eu (by have:=HC.out.2.1;omega) C HC.out.2.2.1 ?_)
  | ((with_reducible show zOq (.alloc 134));refine AI rfl 134 rfl (.agg ZP) HZ.out.1 ?_;dsimp only[Value.cells];try simp only[World.size_alloc])
  | ((with_reducible show zOq (.store 134 _ _));refine AE rfl 134 _ _ rfl wr.heap.size 0 C rfl rfl (heap_alloc_new _ _) (by rw[Eu,HC.out.2.2.2.1]) (by rw[HC.out.2.2.2.1,HZ.out.2];omega) HC.out.2.2.2.2 C (by rw[AJ _ _ (by rw[Array.length_toList,Array.length_toList,HC.out.2.2.2.1,HZ.out.2])]) ?_))
 refine BJ (fun wx hwx=>?_);have ax:Adds wr wx:=by rw[hwx];exact((Ch.refl _ _).alloc _).setRow (.inr (Nat.le_refl _)) _
 have rx:wx.heap[wr.heap.size]?=some (.cells C 134 (0,0)):=by rw[hwx];exact AF (heap_alloc_new wr (.cells ZP 134)) C
 have q32:=AH rx HX.out.2.2.2.1;have q33:=AH rx HX.out.2.2.2.2;have AX:=Lib.hid (HS.out.2.2.trans ax (fun _=>fEq));clear ax rx hwx;cases gb with
 | true =>
  have HT:RowKit.Hid ((l.take (k+1)).any GZ=false):=Lib.hid (by rw[HX.out.2.1,List.any_append,HS.out.2.1];simp[HX.out.2.2.1]);go_wp2_with fail;go_roundg (gk-1)
  case measure=>have:=HS.out.1;omega
  exact⟨k+1,by first|(simp;done)|(simp[hwk];done),by have:=HS.out.1;omega,HT.out,AX.out⟩
 | false =>
  by_cases hlg:1024<xn
  · have hy:(1024:Int)<(xn:Int):=by omega
    have hy1:decide ((1024:Int)<(xn:Int))=true:=decide_eq_true hy
    have HL4:RowKit.Hid (∀n,DB σ l n=4):=Lib.hid (fun n=>by
     unfold DB;have:l.any GZ=true:=List.any_eq_true.2 ⟨x,List.mem_of_getElem? HX.out.1,by rw[HX.out.2.2.1];simp[hlg]⟩;rw[this];split<;>rfl)
    clear hlg;go_wp2_with fail;go_ret;exact⟨AX.out,0,by rw[HL4.out];rfl,fun h=>absurd (HL4.out 0) h⟩
  have hy:¬(1024:Int)<(xn:Int):=by omega
  have hy1:decide ((1024:Int)<(xn:Int))=false:=decide_eq_false hy;have HT:RowKit.Hid ((l.take (k+1)).any GZ=false):=Lib.hid (by rw[HX.out.2.1,List.any_append,HS.out.2.1];simp[HX.out.2.2.1];omega);clear hlg;go_wp2_with fail;go_roundg (gk-1)
  case measure=>have:=HS.out.1;omega
  exact⟨k+1,by first|(simp;done)|(simp[hwk];done),by have:=HS.out.1;omega,HT.out,AX.out⟩
theorem Wb {σ σ':AD Nd} {root r:Int} {L L':AS} {R:List (Int×AS)} {key:List UInt8} {n m:Nat} (D:BE σ ((root,L)::R)) (B:Bt σ σ' key r 0 (tree 256 L') n m) (hn:(keysOf L').Nodup) (hl:∀q∈L',q.1.length=32):BE σ' ((r,L')::(root,L)::R):=by
 refine⟨B.good,fun k hk=>?_,fun p hp=>?_,fun p hp=>?_,fun p hp=>?_⟩
 · rw[B.held k hk,D.held k hk,Dw (r,L')]
   split<;>rfl
 · rcases List.mem_cons.1 hp with rfl|hp
   · exact B.rep
   exact(D.rep p hp).grow B.old
 · rcases List.mem_cons.1 hp with rfl|hp
   · exact hn
   exact D.nodup p hp
 rcases List.mem_cons.1 hp with rfl|hp
 · exact hl
 exact D.len p hp
theorem WmsG.Zs {G:Nat→Prop} {w w1 w2:World} {ao ao':Option Addr} {l l':List Wm} (H:WmsG G w ao l) (hlo:Ce l l') (h2:Cq w2 ao' l') (hb:∀a,ao'=some a→w1.heap.size≤a.block) :
 WmsG (fun k=>G k∨(w1.heap.size≤k∧k<w2.heap.size)) w2 ao' l':=by
 refine⟨h2,fun h0=>?_,fun y hy h0 b hb2=>?_⟩
 · obtain⟨x,hx⟩:∃x,l'[0]?=some x:=⟨_,List.getElem?_eq_getElem (List.length_pos_iff.2 h0)⟩
   obtain⟨g,off,e,h3⟩:=h2.row 0 x hx;obtain⟨cur,ty,fr,c1,_⟩:=h3;exact⟨_,e,.inr ⟨hb _ e,Ac c1⟩⟩
 obtain⟨x,hx,rfl⟩:=hlo.mem y hy;have e:=Wm.LJ.2.2 h0;rw[e] at h0 hb2;exact .inl (H.vals x hx h0 b hb2)
theorem BuOk.top {G:Nat→Prop} {w1 w2:World} {σ:AD Nd} {ao ao':Option Addr} {cap:Nat} {l l':List Wm} {root:Int} {L:AS} {R:List (Int×AS)} {w:World} (H:WmsG G w ao l) (hlo:Ce l l') (h2:Cq w2 ao' l') (hb:∀a,ao'=some a→w1.heap.size≤a.block)
 (hcap:l'.length≤cap∨l' = []) (D:BE σ ((root,L)::R)) (he:DB σ l l'.length=0) (htot:Store.total σ+60000<1073741824) :
 BuOk (fun k=>G k∨(w1.heap.size≤k∧k<w2.heap.size)) w2 σ ao' cap l' root (List.replicate 32 0) 0 L:=by
 have h64:l.length≤64:=by
  unfold DB at he;by_cases h:64<l.length
  · rw[if_pos h] at he;cases he
  omega
 have hlong:l.any GZ=false:=by
  unfold DB at he;rw[if_neg (by omega)] at he;cases h:l.any GZ with
  | false=>rfl
  | true=>rw[h,if_pos rfl] at he;cases he
 have hfit:Cw σ (l'.length:Nat)=true:=by
  unfold DB at he;rw[if_neg (by omega),hlong,if_neg (by simp)] at he;by_cases h:Cw σ (l'.length:Nat)=true
  · exact h
  rw[if_neg h] at he;cases he
 have hlen:=hlo.len;have hin:root=0∨∃x,sk σ root=some x:=(D.rep (root,L) (List.mem_cons_self ..)).live;have hu:=D.good.used;unfold Cw at hfit;simp only[Bool.and_eq_true,decide_eq_true_eq] at hfit;refine⟨H.Zs hlo h2 hb,hcap,by omega,rfl,AS.Ok.any hlo.nodup (fun p hp=>?_) _,hlo.rise,fun y hy hg=>?_,AS.Ok.any (D.nodup _ (List.mem_cons_self ..)) (D.len _ (List.mem_cons_self ..)) _,fun y _ i hi=>absurd hi (Nat.not_lt_zero _),D.rep _ (List.mem_cons_self ..),by omega,by omega⟩
 · obtain⟨y,hy,rfl⟩:=List.mem_map.1 hp
   exact(h2.good y hy).key
 obtain⟨x,hx,rfl⟩:=hlo.mem y hy;have e:=Wm.LJ.2.1 (by rw[←Wm.LJ.1];exact hg);rw[e]
 have h1:GZ x=false:=by
  cases h:GZ x with
  | false=>rfl
  | true=>rw[List.any_eq_true.2 ⟨x,hx,h⟩] at hlong;cases hlong
 rw[e] at hg;unfold GZ at h1;rw[hg] at h1;simp at h1;exact h1
structure Applied (σ σ':AD Nd) (l l':List Wm) (r:Int) (L:AS) (R:List (Int×AS)):Prop where
 last:Ce l l'
 few:l.length≤64
 rts:BE σ' ((r,CT L (l'.map Wm.wp))::R)
 live:Store.live σ'≤Store.live σ+258*l'.length
 total:Store.total σ'≤Store.total σ+60000
 room:σ'.room=σ.room
theorem Nk {σ:AD Nd} {l:List Wm} {n:Nat} (he:DB σ l n=0):l.length≤64:=by
 unfold DB at he;by_cases h:64<l.length
 · rw[if_pos h] at he;cases he
 omega
theorem Qd {σ σ1:AD Nd} {l l':List Wm} {root r:Int} {L:AS} {R:List (Int×AS)} {k:List UInt8} {G:Nat→Prop} {w:World} {ao:Option Addr} {cap:Nat} (hlo:Ce l l') (D:BE σ ((root,L)::R)) (H:BuOk G w σ ao cap l' root k 0 L) (he:DB σ l l'.length=0)
 (B:Bt σ σ1 k r 0 (tree (256-0) (CT L (l'.map Wm.wp))) ((257-0)*l'.length) (3*((257-0)*l'.length)+1)) :
 Applied σ (if root≠0 then (An σ1 root).2.2 else σ1) l l' r L R:=by
 have hwok:=Qw H.ok H.val;have hok:=LU H.lok hwok;have hr:=Wb D B hok.nodup hok.len;have h64:=Nk he;have hlen:=hlo.len;have b1:=B.live;have b2:=B.total;have b3:=B.room;have hp:BE σ1 ((root,L)::(r,CT L (l'.map Wm.wp))::R):=hr.perm (List.Perm.swap ..);by_cases h0:root=0
 · rw[if_neg (fun h=>h h0)]
   subst h0;exact⟨hlo,h64,hp.less,by omega,by omega,b3⟩
 rw[if_pos h0];obtain⟨_,d1,d2,d3,d4⟩:=hp.drop h0;exact⟨hlo,h64,d1,by omega,by omega,d4.trans b3⟩
theorem O7 {w0 w:World} {s:Nat} {σ:AD Nd} {G:Nat→Prop} {ao:Option Addr} {cap:Nat} {l:List Wm} {root:Int} {L:AS} {R:List (Int×AS)} (h:Ow w0 w s σ G) (D:BE σ ((root,L)::R)) (hl:WmsG G w ao l) (htot:Store.total σ+60000<1073741824) :
 Calls Tryz.prog 62 #[.pointer (some ⟨s,0,none⟩),.int .i64 root,.slice ao l.length cap] w fun e w'=>∃r σ' n,e=.returned (.tuple #[.int .i64 r,.int .i64 (DB σ l n)])∧Ow w0 w' s σ' G∧But G w w'∧(DB σ l n≠4→∃l',Ce l l'∧n=l'.length) ∧
  ((DB σ l n≠0∧r=0∧σ'=σ)∨(DB σ l n=0∧∃l',Applied σ σ' l l' r L R)):=by
 have hhand:De σ root=0:=(D.db (List.mem_cons_self ..)).hand;obtain⟨F,hAt⟩:=h.at;have hwr:=Uj cap hAt hhand hl.at_;have hla:=fun w1 (a:Adds w w1) (hn:l.length≤4096)=>OJ cap (hl.at_.adds a) hn
 obtain⟨len,hlen⟩:∃len,len=l.length:=⟨_,rfl⟩
 rw[←hlen] at hwr hla ⊢;have HW:=(hIq hwr hla)
 have HH:=(hIq h (aIq D (aIq hl (aIq htot hlen))))
 clear hhand hAt hwr hla h D hl htot hlen;go_enter Tryz.func62,Tryz.ntmps62;go_wp2_with fail;refine HW.out.1.mono ?_;rintro e w1 ⟨a1,n,rfl,hn⟩;obtain⟨er,her⟩:∃er,er=DB σ l n:=⟨_,rfl⟩
 rw[←her] at hn ⊢;have A1:=Lib.hid a1;have HN:=Lib.hid hn;have HER:=Lib.hid her;clear a1 hn her;by_cases he:er=0
 · have HE:=Lib.hid he
   subst he;obtain⟨l1,hl1,hnl⟩:=HN.out (by decide);have H1:=(hIq hl1 hnl)
   clear hl1 hnl;go_wp2_with fail;refine(HW.out.2 w1 A1.out (by have:=Nk HER.out.symm;have:=HH.out.2.2.2.2;omega)).mono ?_;rintro e w2 ⟨l',ao',cap',rfl,hcap,hlo,hwm,a2,hbl⟩;have hsame:=hlo.same H1.out.1;have he0:DB σ l l'.length=0:=by rw[hsame, ←H1.out.2];exact HER.out.symm
   have hA2:=A1.out.trans a2 (fun _=>fEq);have hbu:=BuOk.top HH.out.2.2.1 hlo hwm hbl hcap HH.out.2.1 he0 HH.out.2.2.2.1;have ho2:=(HH.out.1.adds A1.out).more a2 (G':=fun k=>G k∨(w1.heap.size≤k∧k<w2.heap.size)) (fun k hk=>hk);have hbt:=Vn 256 0 rfl ho2 HH.out.2.1.good hbu;obtain⟨n',hn'⟩:∃n',n'=l'.length:=⟨_,rfl⟩
   rw[←hn'] at hbt ⊢;have HB:=Lib.hid hbt;have H2:=(hIq hlo (aIq hbu (aIq he0 (aIq hA2 hn'))))
   clear hcap hlo hwm hbl hsame he0 hA2 hbu ho2 hbt hn' a2;go_wp2_with fail;refine HB.out.mono ?_;rintro e w3 ⟨r,σ1,rfl,o3,b3,B3⟩;have happ:=Qd (r:=r) (σ1:=σ1) H2.out.1 HH.out.2.1 H2.out.2.1 H2.out.2.2.1 (by rw[←H2.out.2.2.2.2];exact B3);have H3:=(hIq o3 (aIq b3 happ))
   clear o3 b3 B3 happ;by_cases h0:root=0
   · have HZ:=Lib.hid h0
     subst h0;go_wp2;go_ret2;refine⟨r,σ1,n,by rw[←HER.out];rfl,H3.out.1.less (fun _ h=>.inl h),(Adds.but H2.out.2.2.2.1).then (H3.out.2.1.less (fun _ h=>.inl h)),fun _=>⟨l1,H1.out⟩,.inr ⟨HER.out.symm,l',?_⟩⟩;have:=H3.out.2.2
     rwa [if_neg (fun h=>h rfl)] at this
   have hdr:=H3.out.1.drop root;have HDR:=Lib.hid hdr;have H0:=Lib.hid h0;clear hdr;go_wp2_with fail;refine HDR.out.mono ?_;rintro e w4 ⟨rfl,o4,b4⟩;have H4:=(hIq o4 (H3.out.2.1.then b4))
   clear o4 b4;go_wp2;go_ret2;refine⟨r,_,n,by rw[←HER.out];rfl,H4.out.1.less (fun _ h=>.inl h),(Adds.but H2.out.2.2.2.1).then (H4.out.2.less (fun _ h=>.inl h)),fun _=>⟨l1,H1.out⟩,.inr ⟨HER.out.symm,l',?_⟩⟩;have:=H3.out.2.2
   rwa [if_pos H0.out] at this
 go_wp2;go_ret2;exact⟨0,σ,n,by rw[←HER.out];rfl,HH.out.1.adds A1.out,Adds.but A1.out,by rw[←HER.out];exact HN.out,.inl ⟨by rw[←HER.out];exact he,rfl,rfl⟩⟩
end Go.Proofs.YtngbdbpofifimaaGreat.Law9
