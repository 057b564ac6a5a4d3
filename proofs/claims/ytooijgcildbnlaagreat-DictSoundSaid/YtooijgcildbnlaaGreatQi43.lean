/- Laws of the layers below. -/
import Derived.Test.YtooijgcildbnlaaGreatQi42
import Derived.SizedLaws
set_option maxHeartbeats 3200000
set_option maxRecDepth 100000
set_option linter.unusedVariables false
namespace Go.Proofs.YtooijgcildbnlaaGreat.Law15
open Go.RowKit Go.Sort Go.Proofs.YtooijgcildbnlaaGreat.ShaW Go.Proofs.YtooijgcildbnlaaGreat.Path Go.Proofs.YtooijgcildbnlaaGreat.Store Go.Proofs.YtooijgcildbnlaaGreat.BC Go.Proofs.YtooijgcildbnlaaGreat.Law14
section
variable {w0 w w' : World} {d v s room tn : Nat} {G G' : Nat→Prop} {σ σ' : AA Nd} {root r : Int} {L L' : AN} {M M' : Nmd}
theorem Dct.Bd (h:Dct w0 w d v s G room σ root L M tn) (hG:∀k,G' k→G k):Dct w0 w d v s G' room σ root L M tn :=
 ⟨h.cell,h.vs.less (fun k hk=>hk.imp id (hG k)),h.rts,h.room,h.total,h.base.1,fun hk=>h.base.2 (hG _ hk)⟩
theorem Dct.MO (h:Dct w0 w d v s G room σ root L M tn):Store.live σ≤room:=by
 have h1:=QV σ;have h2:=h.rts.good.sound.wf.len;have h3:=h.room;omega
theorem TE (h:∀p∈M,CX p.1=true) : []∉DB M:=fun hm=>by
 obtain⟨p,hp,e⟩:=Gw hm;have:=h p hp;rw[e] at this
 revert this
 decide
theorem Dct.says (h:Dct w0 w d v s G room σ root L M tn) (hf:∀p∈M,CX p.1=true):Km σ (DA root M (Ds M)) :=
 h.rts.says (fun k hk=>M7 h.nd (TE hf) k hk)
theorem Dct.chk (h:Dct w0 w d v s G room σ root L M tn) (hl:M.length≤16):Store.chk σ (DA root M (Ds M))=0 :=
 Roots.chk h.rts (by have h1:=Kq root M (Ds M);rw[Gs] at h1;omega) (fun r hr=>by
  obtain⟨L',h1,_⟩:=Pp (L:=L) h.nd hr;exact⟨L',h1⟩)
structure Y4 (W w:World) (d v s room:Nat) (σ:AA Nd) (root:Int) (L:AN) (M:Nmd) (tn:Nat):Prop where
 dct:Dct W w d v s (fun _=>False) room σ root L M tn
 few:M.length≤16
 fit:∀p∈M,CX p.1=true
def Tk:Array Value:=#[.int .u8 0,.string ByteArray.empty,.slice none 0 0,.slice none 0 0,.slice none 0 0,.int .i64 0]
theorem Pz:(Tryz.prog.info? 80).bind (·.zero)=some (.agg Tk):=by kernel_rfl
theorem Tq {W:World} (room0:Int) {ao:Option Addr} {l:List Ce} (cap:Nat) (hl:G8 W ao l) (hla:∀a∈l,a.l.length*56≤140737488351232) (hll:l.length≤140737488351232) :
 Calls Tryz.prog 9 #[.int .i64 room0,.slice ao l.length cap] W fun e w'=>e=.returned (.bool true)∧Adds W w':=by
 obtain⟨len,hlen⟩:∃n,n=l.length:=⟨_,rfl⟩
 have HL:=(hIq hl (aIq hla (aIq hll hlen)))
 rw[←hlen];have hpk:=UX room0 20000 (by decide) (by decide);have hpi:=Vo room0 (show 0<20000 by decide);obtain⟨pk,hp⟩:∃i:Nat,pick room0 20000=i:=⟨(pick room0 20000).toNat,by omega⟩
 rw[hp] at hpk hpi;obtain⟨room,hroom⟩:∃r:Nat,r=300+pk:=⟨_,rfl⟩
 have hwr:wrap64 (300+(pk:Int))=(room:Int):=by unfold wrap64;omega
 have HPK:=(hIq hpk (aIq hroom (show pk<20000 by omega)))
 clear hpk hpi hp hroom hl hla hll hlen;go_enter Tryz.func9,Tryz.ntmps9;go_wp2_with fail;refine(HPK.out.1 _).mono ?_;rintro e w1 ⟨rfl,rfl⟩;have hnw:=Vq room W (by have:=HPK.out.2;omega) (by have:=HPK.out.2;omega);have HNW:=Lib.hid hnw;clear hnw;go_wp2_with fail;refine HNW.out.mono ?_;rintro e w1 ⟨d,v,s,rfl,hd⟩;have HD:=Lib.hid hd;clear hd HNW;go_upto_region 5 with fail;go_wp2_with fail;go_loopg [7,8,9,10,11,12,13,14,15,16,17] (len+1) (fun g s7 s8 s9 s10 s11 s12 s13 s14 s15 s16 s17 wr=>∃k σ root L M,s7=.int .i64 ((k:Nat):Int)∧k+g=len+1∧k≤len∧k≤40∧Y4 W wr d v s room σ root L M (60000*k))
 case atStart=>exact⟨0,_,_,_,_,rfl,by omega,by omega,by omega,⟨HD.out,by decide,fun p hp=>by cases hp⟩⟩
 obtain⟨k,σ,root,L,M,rfl,hk,hkl,hk40,hst⟩:=hrel;have HS:=(hIq hst (aIq hk (aIq hkl hk40)))
 clear hst hk hkl hk40
 iterate 2 go_step
 go_cut [49] (fun s49 wx=>s49=.bool (decide (k<len∧k<40))∧wx=wr)
 case first =>
  by_cases h1:k<len
  · have h1':(k:Int)<(len:Int):=by omega
    have h1'':decide ((k:Int)<(len:Int))=true:=decide_eq_true h1';by_cases h2:k<40
    · have h2':(k:Int)<40:=by omega
      have h2'':decide ((k:Int)<40)=true:=decide_eq_true h2';have H3:=Lib.hid (show decide (k<len∧k<40)=true from decide_eq_true ⟨h1,h2⟩);go_wp2;go_meet;exact⟨by rw[H3.out],rfl⟩
    have h2':¬(k:Int)<40:=by omega
    have h2'':decide ((k:Int)<40)=false:=decide_eq_false h2';have H3:=Lib.hid (show decide (k<len∧k<40)=false from decide_eq_false (fun h=>h2 h.2));go_wp2;go_meet;exact⟨by rw[H3.out],rfl⟩
  have h1':¬(k:Int)<(len:Int):=by omega
  have h1'':decide ((k:Int)<(len:Int))=false:=decide_eq_false h1';have H3:=Lib.hid (show decide (k<len∧k<40)=false from decide_eq_false (fun h=>h1 h.1));go_wp2;go_meet;exact⟨by rw[H3.out],rfl⟩
 obtain⟨rfl,rfl⟩:=hcut;by_cases hc:k<len∧k<40
 · rw[decide_eq_true hc]
   have hwk:wrap64 ((k:Int)+1)=(k:Int)+1:=by unfold wrap64;omega
   have hx1:(k:Int)<(len:Int):=by omega
   have hx1':k<len:=hc.1;obtain⟨x,hx⟩:∃x,l[k]?=some x:=⟨_,List.getElem?_eq_getElem (by have:=HL.out.2.2.2;omega)⟩
   obtain⟨g0,off,rfl,cur,ty,fr,c1,c2,c3⟩:=(HL.out.1.AZ HS.out.1.dct.world (fun _=>fEq)).row k x hx;have hg:=HL.out.1.good x (List.mem_of_getElem? hx);obtain⟨C,hC⟩:∃C,C=x.cells:=⟨_,rfl⟩
   have hcs:C.size=6:=by rw[hC];rfl
   have hc1:∀v∈C.toList,v.oneCell'=true:=by rw[hC];exact(VY (hg.AZ HS.out.1.dct.world (fun _=>fEq))).2
   rw[←hC] at c2 c3;rw[hcs] at c2 c3;have HC:=(hIq c1 (aIq c2 (aIq c3 (aIq hcs (aIq hc1 (aIq hC (aIq hg (HL.out.2.1 x (List.mem_of_getElem? hx)))))))))
   clear hx c1 c2 c3 hg hC hcs hc1
   go_upto_region 9 with(first
    | fail
    | ((with_reducible show zOq (.load 80 _));refine AE rfl 80 _ rfl g0 (off+k*6) rfl HC.out.1 Tryz.underlying80 rfl JL (by have:=HC.out.2.1;omega) C HC.out.2.2.1 ?_)
    | ((with_reducible show zOq (.alloc 80));refine AG rfl 80 rfl (.agg Tk) Pz ?_;dsimp only[Value.cells];try simp only[World.size_alloc])
    | ((with_reducible show zOq (.store 80 _ _));refine AB rfl 80 _ _ rfl wc.heap.size 0 C rfl rfl (heap_alloc_new _ _) (by rw[JL,HC.out.2.2.2.1]) (by rw[HC.out.2.2.2.1];exact Nat.le_of_eq (Nat.zero_add _)) HC.out.2.2.2.2.1 C (by rw[AI _ _ (by rw[Array.length_toList,Array.length_toList,HC.out.2.2.2.1];rfl)]) ?_))
   refine Cc (fun w2 hw2=>?_);have a2:Adds wc w2:=by rw[hw2];exact((Ch.refl _ _).alloc _).setRow (.inr (Nat.le_refl _)) _
   have r2:w2.heap[wc.heap.size]?=some (.cells C 80 (0,0)):=by rw[hw2];exact AD (heap_alloc_new wc (.cells Tk 80)) C
   have h2:=HS.out.1.dct.more a2 (b:=wc.heap.size) ⟨Nat.le_refl _,Al r2⟩;obtain⟨b8,hb8⟩:∃b8,b8=wc.heap.size:=⟨_,rfl⟩
   rw[←hb8] at r2 h2 ⊢;have hoc:=I3 h2;have hdo:=Xu h2 HC.out.2.2.2.2.2.2.1 HC.out.2.2.2.2.2.2.2 (by have:=HS.out.2.2.2;omega);rw[←HC.out.2.2.2.2.2.1] at hdo;obtain⟨lv,hlv⟩:∃lv,lv=Store.live σ:=⟨_,rfl⟩
   rw[←hlv] at hoc;have H2:=(hIq hoc (aIq r2 (aIq hdo hlv)))
   clear a2 r2 h2 hw2 hb8 hoc hdo hlv;go_wp2_with fail;refine H2.out.1.mono ?_;rintro e w3 ⟨rfl,rfl⟩
   go_wp2_with (first
    | fail
    | ((with_reducible show zOq (.load 80 _));refine AE rfl 80 _ rfl b8 0 rfl H2.out.2.1 Tryz.underlying80 rfl JL (by rw[HC.out.2.2.2.1];omega) C (by have:=HC.out.2.2.2.1;simp[←this]) ?_))
   refine H2.out.2.2.1.mono ?_;rintro e w3 ⟨rfl,σ',r,L',M',hs,hkp⟩;have hfew:=hkp.few HS.out.1.few;have hfit:=hkp.fit HS.out.1.fit;have r3:=hs.but.row H2.out.2.1 (.inr rfl);have hdct:Dct W w3 d v s (fun _=>False) room σ' r L' M' (60000*(k+1)):=by rw[Nat.mul_succ];exact hs.dct.Bd (fun k hk=>hk.elim)
   obtain⟨lv',hlv'⟩:∃lv',lv'=Store.live σ':=⟨_,rfl⟩
   have hoc:=I3 hdct;rw[←hlv'] at hoc;have hlm:=hs.live;rw[←H2.out.2.2.2, ←hlv'] at hlm;have hlr:=hdct.MO;rw[←hlv'] at hlr;obtain⟨kd,hkd⟩:∃kd,kd=x.kind:=⟨_,rfl⟩
   obtain⟨ll,hll⟩:∃ll,ll=x.l.length:=⟨_,rfl⟩
   have c0:=AF (i:=0) (v:=.int .u8 kd) r3 (by rw[HC.out.2.2.2.2.2.1,hkd];rfl);have c4:=AF (i:=4) (v:=.slice x.ao ll x.cap) r3 (by rw[HC.out.2.2.2.2.2.1,hll];rfl);have hmost:DS x=if kd≤1 then 258 else if kd=2 then 258*ll else 0:=by unfold DS;rw[hkd,hll]
   have hll2:ll*56≤140737488351232:=by rw[hll];exact HC.out.2.2.2.2.2.2.2
   rw[hmost] at hlm;have H3:=(hIq hdct (aIq hfew (aIq hfit (aIq hoc (aIq hlm (aIq hlr (aIq hlv' hll2)))))))
   clear hs hkp hfew hfit r3 hdct hlv' hoc hlm hlr hkd hll hmost hll2;go_wp2_with fail;refine H3.out.2.2.2.1.mono ?_;rintro e w4 ⟨rfl,rfl⟩;go_upto_if 65 with fail;go_cut [11] (fun s11 wx=>s11=.int .i64 (if kd≤1 then 258 else 0)∧wx=w3)
   case first =>
    by_cases h1:kd≤1
    · have h1':decide (kd≤1)=true:=decide_eq_true h1
      have H1:=Lib.hid h1;go_wp2;go_meet;exact⟨by rw[if_pos H1.out],rfl⟩
    have h1':decide (kd≤1)=false:=decide_eq_false h1;have H1:RowKit.Hid ((if kd≤1 then (258:Int) else 0)=0):=Lib.hid (if_neg h1);go_wp2;go_meet;exact⟨by rw[H1.out],rfl⟩
   obtain⟨rfl,rfl⟩:=hcut;obtain⟨m1,hm1⟩:∃m1:Int,m1=if kd≤1 then 258 else 0:=⟨_,rfl⟩
   rw[←hm1];have HM1:=Lib.hid hm1;clear hm1;go_upto_if 68 with fail;go_cut [11] (fun s11 wx=>s11=.int .i64 (if kd=2 then ((258*ll:Nat):Int) else m1)∧wx=wc)
   case first =>
    by_cases h1:kd=2
    · have H1:RowKit.Hid ((if kd=2 then ((258*ll:Nat):Int) else m1)=258*(ll:Int)):=Lib.hid (by rw[if_pos h1];omega)
      have hwl:wrap64 (258*(ll:Int))=258*(ll:Int):=by have:=H3.out.2.2.2.2.2.2.2;unfold wrap64;omega
      go_wp2;go_meet;exact⟨by rw[H1.out,hwl],rfl⟩
    have H1:RowKit.Hid ((if kd=2 then ((258*ll:Nat):Int) else m1)=m1):=Lib.hid (if_neg h1);go_wp2;go_meet;exact⟨by rw[H1.out],rfl⟩
   obtain⟨rfl,rfl⟩:=hcut
   obtain⟨mo,hmo⟩:∃mo:Nat,(mo:Int)=(if kd=2 then ((258*ll:Nat):Int) else m1)∧mo=(if kd≤1 then 258 else if kd=2 then 258*ll else 0):=by
    refine⟨_,?_,rfl⟩;rw[HM1.out];by_cases h1:kd=2
    · rw[if_pos h1,if_neg (by omega),if_pos h1]
    rw[if_neg h1,if_neg h1];split<;>rfl
   rw[←hmo.1];have hlm:=H3.out.2.2.2.2.1;rw[←hmo.2] at hlm
   have hmb:mo≤700000000000000:=by
    have h1:=H3.out.2.2.2.2.2.2.2;rw[hmo.2];split
    · omega
    split<;>omega
   have hlb:lv≤100000:=by rw[H2.out.2.2.2];have:=HS.out.1.dct.MO;have:=HPK.out.2;omega
   have hrts:=Sx H3.out.1 H3.out.2.1;have HR:=Lib.hid hrts;have HN:=(hIq hlm (aIq hmb hlb))
   clear hmo hlm hmb hlb hrts;go_wp2_with fail;refine HR.out.mono ?_;rintro e w5 ⟨q,m,qc,rfl,hrow,a5⟩;have hd5:=H3.out.1.adds a5;have hI:=(Cb.own hrow.1).1;have hck0:=hd5.chk H3.out.2.1;have hsy:=hd5.says H3.out.2.2.1;have hml:=hrow.2;obtain⟨R,hRe⟩:∃R,R=DA r M' (Ds M'):=⟨_,rfl⟩
   rw[←hRe] at hI hck0 hsy hml;obtain⟨F,hF⟩:=hd5.at;have hck:=fun w1 (a:Adds w5 w1)=>PH (hF.adds a) hd5.rts.good qc (hI.adds a) hck0
   have hlo:=fun w1 (a:Adds w5 w1)=>Sd (hF.adds a) hd5.rts.good qc (hI.adds a) hck0
   rw[hml] at hck hlo;have hso:=fun w1 (a:Adds w5 w1)=>SC (hd5.adds a)
   have hou:=fun w1 (a:Adds w5 w1)=>Gl (hF.adds a)
   rw[hd5.rts.good.used, ←H3.out.2.2.2.2.2.2.1] at hou;have H5:=(hIq hck (aIq hlo (aIq hso (aIq hou (aIq hsy hd5)))))
   clear hck hlo hso hou hsy hd5 hF hI hck0 hml hRe hrow a5;go_wp2_with fail;refine(H5.out.2.2.1 _ (Ch.refl _ _)).mono ?_;rintro e w6 ⟨rfl,rfl⟩;go_wp2_with fail;refine(H5.out.1 _ (Ch.refl _ _)).mono ?_;rintro e w6 ⟨v6,k6,rfl,hW6,own6,a6⟩;rw[H5.out.2.2.2.2.1.Lf hW6] at own6;simp only[List.length_nil,fdL,List.flatMap_nil] at own6;obtain⟨q6,qc6,rfl⟩:=Ab own6;have H6:=Lib.hid a6;clear own6 hW6 a6;go_wp2_with fail;refine(H5.out.2.2.1 _ H6.out).mono ?_;rintro e w7 ⟨rfl,rfl⟩;go_wp2_with fail;refine(H5.out.2.1 _ H6.out).mono ?_;rintro e w7 ⟨v7,k7,rfl,hW7,own7,a7⟩;rw[H5.out.2.2.2.2.1.lost hW7] at own7;simp only[List.length_nil,DO,List.map_nil] at own7;obtain⟨q7,qc7,rfl⟩:=Ab own7;have H7:=Lib.hid (H6.out.trans a7 (fun _=>fEq));clear own7 hW7 a7;have g1:wrap64 ((lv:Int)+(mo:Int))=(lv:Int)+(mo:Int):=by have:=HN.out;unfold wrap64;omega
   have g2:decide ((lv:Int)+(mo:Int)<(lv':Int))=false:=decide_eq_false (by have:=HN.out;omega);have g3:decide ((room:Int)<(lv':Int))=false:=decide_eq_false (by have:=H3.out.2.2.2.2.2.1;omega);have g4:lv'≤room:=H3.out.2.2.2.2.2.1;go_wp2_with fail;refine(H5.out.2.2.1 _ H7.out).mono ?_;rintro e w8 ⟨rfl,rfl⟩;go_wp2_with fail;refine(H5.out.2.2.2.1 _ H7.out).mono ?_;rintro e w8 ⟨rfl,rfl⟩;go_wp2;go_roundg (gk-1)
   case measure=>have:=HS.out.2;omega
   exact⟨k+1,σ',r,L',M',by first|(simp;done)|(simp[hwk];done),by have:=HS.out.2;omega,by omega,by omega,⟨H5.out.2.2.2.2.2.adds H7.out,H3.out.2.1,H3.out.2.2.1⟩⟩
 rw[decide_eq_false hc];clear hc;have hnm:=fun w1 (a:Adds wc w1)=>MB (HS.out.1.dct.adds a) (by have:=HS.out.1.few;omega)
 obtain⟨ml,hml⟩:∃ml,ml=M.length:=⟨_,rfl⟩
 have HML:=Lib.hid hml;have hn17:ml≤16:=by rw[hml];exact HS.out.1.few
 have HNM:=Lib.hid hnm;clear hnm hml;go_upto_region 22 with fail;refine Cc (fun w1 hw1=>?_);have a1:Adds wc w1:=by rw[hw1];exact Ch.refl _ _
 have A1:=Lib.hid a1;clear a1 hw1;go_wp2_with fail;refine(HNM.out _ (A1.out.alloc _)).mono ?_;rintro e w2 ⟨q,rfl,hq,a2⟩;rw[←HML.out] at hq;obtain⟨qo,qc,rfl,hro,hlen⟩:=Jk.own hq;have hl2:(EK (Dp M)).length=ml:=by rw[GB,Ej,HML.out]
 have H2:=(hIq ((A1.out.alloc _).trans a2 (fun _=>fEq)) (aIq (a2.owns (Qn w1 []) (fun _ _ h=>h)) (aIq hro (aIq hl2 A1.out.size))))
 clear hq hro hlen hl2 a2
 go_upto_region 23 with(first
  | fail
  | (at_builtin;refine Ed rfl _ _ rfl (.slice (some ⟨w1.heap.size,0,none⟩) 1 1) 1 [[]] rfl H2.out.2.1 qo ml qc (EK (Dp M)) rfl H2.out.2.2.1 H2.out.2.2.2.1 (by omega) ?_;intro v' w3 own' grow' loc';have a3:Adds wc w3:=H2.out.1.grown grow' (fun k hk=>.inr (by cases hk;exact H2.out.2.2.2.2));obtain⟨no,nc,rfl⟩:=Ab own';have H3:=(hIq a3 own');clear own' grow' loc' a3))
 obtain⟨_,_,e1,hro3,_⟩:=Jk.own H3.out.2;injection e1 with e1 _ _;rw[←e1] at hro3;obtain⟨n,hn⟩:∃n,n=1+ml:=⟨_,rfl⟩
 have hnr:Io w3 no n M:=⟨hro3,by rw[Gs, ←HML.out];omega⟩
 have A3:=(hIq (HS.out.1.dct.adds H3.out.1) hnr)
 rw[←hn];have hn17':n≤17:=by omega
 clear hro3 e1 hnr H3 H2 hn hn17;go_wp2_with fail;go_loopg [19,20,21,22,23,24,25,26,27] n (fun g s19 s20 s21 s22 s23 s24 s25 s26 s27 wr=>∃k:Nat,s19=.int .i64 (k:Nat)∧k+g=n∧Adds w3 wr)
 case atStart=>exact⟨0,rfl,by omega,Ch.refl _ _⟩
 obtain⟨k2,rfl,hk2,hA⟩:=hrel;have HT:=(hIq hA hk2)
 by_cases hkn:k2<n
 · have h1:decide ((k2:Int)<(n:Int))=true:=decide_eq_true (by omega)
   have h2:(k2:Int)<(n:Int):=by omega
   obtain⟨g0,off,x,rfl,hx,hmem,hc⟩:=A3.out.2.cell hkn;have hwk:wrap64 ((k2:Int)+1)=(k2:Int)+1:=by unfold wrap64;omega
   obtain⟨S,hS⟩:∃S,S=BP x:=⟨_,rfl⟩
   have hcw:∀w1,Adds wr w1→w1.cell? ⟨g0,off+k2,none⟩=some (.string S):=fun w1 a=>by rw[hS];exact a.cell (hA.cell hc id) id
   obtain⟨LX,hLX⟩:∃LX,LX=Gm L M x:=⟨_,rfl⟩
   have hso:=fun w1 (a:Adds wr w1) kv (hk:Bytes w1 kv (List.replicate 32 0))=>Re (A3.out.1.adds (hA.trans a (fun _=>fEq))) hmem hk
   have hle:=fun w1 (a:Adds wr w1)=>Us (A3.out.1.adds (hA.trans a (fun _=>fEq))) hmem
   have hrt:=fun w1 (a:Adds wr w1)=>Rv (A3.out.1.adds (hA.trans a (fun _=>fEq))) hmem
   rw[←hS, ←hLX] at hso hle hrt;have HX:=(hIq hso (aIq hle (aIq hrt hcw)))
   have hmk:∀w:World,(Instr.makeSlice 73 (.int .i64 32) (.int .i64 32)).run Tryz.prog w=.ok (.slice (some ⟨w.heap.size,0,none⟩) 32 32) (w.alloc (.cells (madeCells #[.int .u8 0] 32) 5)):=fun w =>
    run_make_row' 73 5 (.int .u8 0) 1 Tryz.underlying73 (by kernel_rfl) rfl .i64 .i64 32 (by omega) (by omega) w
   obtain⟨MC,hMC⟩:∃MC,MC=madeCells #[Value.int .u8 0] 32:=⟨_,rfl⟩
   rw[←hMC] at hmk
   have hmz:∀w:World,Bytes (w.alloc (.cells MC 5)) (.slice (some ⟨w.heap.size,0,none⟩) 32 32) (List.replicate 32 0):=fun w=>by
    rw[hMC,show madeCells #[Value.int .u8 0] 32=AJ (List.replicate 32 0) by kernel_rfl];exact Bytes.row (heap_alloc_new _ _) (by simp) (by unfold maxLen;omega)
   have HMZ:=Lib.hid hmz;clear hk2 hA hx hmem hc hS hLX hso hle hrt hcw hMC hmz;go_upto_region 26 with fail;refine AO (fun w0=>Adds wr w0) 12 [(0,false),(1,false),(2,false),(3,false),(4,false),(5,true),(6,true),(7,false),(8,false),(9,false),(10,false),(11,false)] (by kernel_rfl) (by kernel_rfl) ?_ ?_
   · exact(Ch.refl _ _).drew
   iterate 4
    iterate 1 refine plan_look rfl rfl (fun w0 hS=>(by go_simp;try rfl)) ?_
    simp only[Act.put,nAq,nBq,nCq]
   refine plan_look (v:=.string S) rfl rfl (fun w0 hS=>(by have c1:=HX.out.2.2.2 w0 hS;clear hS;go_simp;try rfl)) ?_;simp only[Act.put,nAq,nBq,nCq];refine AY rfl ?_;go_wp2;refine⟨(Ch.refl _ _).drew.alloc _,?_⟩;refine AY rfl ?_;go_wp2_with fail;refine(HX.out.1 _ ((Ch.refl _ _).drew.alloc _) _ (HMZ.out _)).mono ?_;rintro e w4 ⟨a4,ao2,out,cap2,rfl,hpa,hol,hfi,htr,_⟩;have a4':Adds wr w4:=((Ch.refl _ _).drew.alloc _).trans a4 (fun _=>fEq);obtain⟨ol,hol'⟩:∃ol,ol=out.length:=⟨_,rfl⟩
   have H4:=(hIq a4' (aIq hpa (aIq hol (aIq hfi (aIq htr hol')))))
   rw[←hol'];clear a4 a4' hpa hol hfi htr hol' hmk;dsimp only;go_step;refine wpList_nil ?_;change _∧_;refine⟨H4.out.1,?_⟩
   iterate 5
    refine plan_look rfl rfl (fun w0 hS=>(by clear hS;go_simp;try rfl)) ?_;simp only[Act.put,nAq,nBq,nCq]
   refine Ae ?_;simp only[List.drop_succ_cons,List.drop_zero];go_wp2;refine NoPanic.normal ?_;have c4:=HX.out.2.2.2 w4 H4.out.1;go_wp2_with fail;refine(HX.out.2.1 w4 H4.out.1).mono ?_;rintro e w5 ⟨rfl,a5⟩;obtain⟨nx,hnx⟩:∃nx,nx=LX.length:=⟨_,rfl⟩
   rw[←hnx];have H5:=(hIq (H4.out.1.trans a5 (fun _=>fEq)) (aIq a5 hnx))
   have c5:=HX.out.2.2.2 w5 H5.out.1;clear a5 c4 hnx;go_wp2_with fail;refine(HX.out.2.2.1 w5 H5.out.1).mono ?_;rintro e w6 ⟨rfl,a6⟩;obtain⟨R1,hR1⟩:∃R1,R1=AJ (tree 256 LX).dig:=⟨_,rfl⟩
   have hdl:(tree 256 LX).dig.length=32:=Tr.En _;rw[←hR1];have H6:=(hIq (H5.out.1.trans a6 (fun _=>fEq)) (aIq (H5.out.2.1.trans a6 (fun _=>fEq)) (aIq hR1 (aIq (show R1.size=32 by rw[hR1,AM,hdl]) (aIq (show ∀v∈R1.toList,v.oneCell'=true by rw[hR1];exact Ak _) hdl)))))
   clear a6 c5 hR1 hdl
   go_upto_region 29 with(first
    | fail
    | ((with_reducible show zOq (.alloc 85));refine AG rfl 85 rfl (.agg (AJ (List.replicate 32 0))) QF ?_;dsimp only[Value.cells];try simp only[World.size_alloc])
    | ((with_reducible show zOq (.store 85 _ _));refine AB rfl 85 _ _ rfl w6.heap.size 0 R1 rfl rfl (heap_alloc_new _ _) (by rw[Gx,H6.out.2.2.2.1]) (by rw[H6.out.2.2.2.1];exact Nat.le_of_eq (Nat.zero_add _)) H6.out.2.2.2.2.1 R1 (by rw[AI _ _ (by rw[Array.length_toList,Array.length_toList,H6.out.2.2.2.1];rfl)]) ?_))
   refine Cc (fun w7 hw7=>?_);have a7:Adds w6 w7:=by rw[hw7];exact((Ch.refl _ _).alloc _).setRow (.inr (Nat.le_refl _)) _
   have r7:w7.heap[w6.heap.size]?=some (.cells R1 85 (0,0)):=by rw[hw7];exact AD (heap_alloc_new w6 (.cells (AJ (List.replicate 32 0)) 85)) R1
   have hnr:=BC.Dl (w:=w7) cap2 (BA.AZ H4.out.2.1 (H6.out.2.1.trans a7 (fun _=>fEq)) (fun _=>fEq));rw[←H4.out.2.2.2.2.2] at hnr;have H7:=(hIq (H6.out.1.trans a7 (fun _=>fEq)) (aIq r7 hnr))
   clear a7 r7 hw7 hnr;go_wp2_with fail;refine H7.out.2.2.mono ?_;rintro e w8 ⟨a8,Hb,c8,rfl,hl8,hf8,hd8⟩;obtain rfl:c8=0:=hf8.2 H4.out.2.2.2.1;obtain⟨R2,hR2⟩:∃R2,R2=AJ Hb:=⟨_,rfl⟩
   rw[←hR2];have H8:=(hIq (H7.out.1.trans a8 (fun _=>fEq)) (aIq (a8.row H7.out.2.1 id) (aIq hR2 (aIq (show R2.size=32 by rw[hR2,AM,hl8]) (aIq (show ∀v∈R2.toList,v.oneCell'=true by rw[hR2];exact Ak _) (hd8 H4.out.2.2.2.1))))))
   clear a8 hf8 hd8 hR2 hl8
   go_upto_region 30 with(first
    | fail
    | ((with_reducible show zOq (.alloc 85));refine AG rfl 85 rfl (.agg (AJ (List.replicate 32 0))) QF ?_;dsimp only[Value.cells];try simp only[World.size_alloc])
    | ((with_reducible show zOq (.store 85 _ _));refine AB rfl 85 _ _ rfl w8.heap.size 0 R2 rfl rfl (heap_alloc_new _ _) (by rw[Gx,H8.out.2.2.2.1]) (by rw[H8.out.2.2.2.1];exact Nat.le_of_eq (Nat.zero_add _)) H8.out.2.2.2.2.1 R2 (by rw[AI _ _ (by rw[Array.length_toList,Array.length_toList,H8.out.2.2.2.1];rfl)]) ?_))
   refine Cc (fun w9 hw9=>?_);have a9:Adds w8 w9:=by rw[hw9];exact((Ch.refl _ _).alloc _).setRow (.inr (Nat.le_refl _)) _
   have r9:w9.heap[w8.heap.size]?=some (.cells R2 85 (0,0)):=by rw[hw9];exact AD (heap_alloc_new w8 (.cells (AJ (List.replicate 32 0)) 85)) R2
   have H9:=(hIq (H8.out.1.trans a9 (fun _=>fEq)) (aIq r9 (a9.row H8.out.2.1 id)))
   clear a9 r9 hw9;have hlen:ol=min nx 256:=by rw[H4.out.2.2.2.2.2,H5.out.2.2];exact H4.out.2.2.1
   by_cases h256:nx≤256
   · obtain rfl:ol=nx:=by omega
     have hreq:R2=R1:=by rw[H8.out.2.2.1,H6.out.2.2.1,H8.out.2.2.2.2.2,H4.out.2.2.2.2.1 (by rw[←H5.out.2.2];exact h256)]
     have r7':w9.heap[w6.heap.size]?=some (.cells R2 85 (0,0)):=by rw[hreq];exact H9.out.2.2
     have hneq:=fun w0=>Tz 85 Tryz.underlying85 (tree 256 LX).dig (tree 256 LX).dig H6.out.2.2.2.2.2 H6.out.2.2.2.2.2 w0
     simp only[←H6.out.2.2.1, ←hreq,decide_true,Bool.not_true] at hneq;have HR:=Lib.hid r7';have h256':(ol:Int)≤256:=by omega
     have h256'':decide ((ol:Int)≤256)=true:=decide_eq_true h256';have hmin:min (ol:Int) 256=ol:=by omega
     have HOL:=Lib.hid h256;clear hlen hreq r7' h256
     go_wp2_with (first
      | fail
      | ((with_reducible show zOq (.load 85 _));refine BO (by first|rfl|(simp[Region.wanted];done)) 85 _ rfl w8.heap.size 0 rfl H9.out.2.1 Tryz.underlying85 rfl Gx (by rw[H8.out.2.2.2.1];omega) R2 (by have:=H8.out.2.2.2.1;simp[←this]) ?_)
      | ((with_reducible show zOq (.load 85 _));refine BO (by first|rfl|(simp[Region.wanted];done)) 85 _ rfl w6.heap.size 0 rfl HR.out Tryz.underlying85 rfl Gx (by rw[H8.out.2.2.2.1];omega) R2 (by have:=H8.out.2.2.2.1;simp[←this]) ?_))
     go_roundg (n-(k2+1))
     case measure=>have:=HT.out.2;omega
     exact⟨k2+1,by first|(simp;done)|(simp[hwk];done),by omega,HT.out.1.trans H9.out.1 (fun _=>fEq)⟩
   obtain rfl:ol=256:=by omega
   have h256':¬(nx:Int)≤256:=by omega
   have h256'':decide ((nx:Int)≤256)=false:=decide_eq_false h256';have hmin:min (nx:Int) 256=256:=by omega
   clear hlen h256;go_wp2;go_roundg (n-(k2+1))
   case measure=>have:=HT.out.2;omega
   exact⟨k2+1,by first|(simp;done)|(simp[hwk];done),by omega,HT.out.1.trans H9.out.1 (fun _=>fEq)⟩
 obtain rfl:k2=n:=by omega
 have h1:decide ((k2:Int)<(k2:Int))=false:=decide_eq_false (by omega);have h2:¬(k2:Int)<(k2:Int):=by omega
 have h3:(k2:Int)≤17:=by omega
 have h4:decide ((k2:Int)≤17)=true:=decide_eq_true h3;clear hk2 hA;go_wp2;go_ret;exact⟨rfl,A3.out.1.world.trans HT.out.1 (fun _=>fEq)⟩
end
end Go.Proofs.YtooijgcildbnlaaGreat.Law15
namespace Go.Proofs.YtooijgcildbnlaaGreat.Law15
open Go.RowKit Go.Proofs.YtooijgcildbnlaaGreat.ShaW Go.Proofs.YtooijgcildbnlaaGreat.Path Go.Proofs.YtooijgcildbnlaaGreat.Store Go.Proofs.YtooijgcildbnlaaGreat.BC Go.Deep Go.ChangeShapes Go.WideShapes Go.ChangeAt
theorem Gh {H:Type} {P:Program} {e:TypeId}:∀ {l:List (DataW H)} {d:DataW H},d∈l→∀n∈d.weights P e,n∈DataW.weightsAll P e l
 | [],d,h=>by cases h
 | d0::l,d,h=>fun n hn=>by
  simp only[DataW.weightsAll,List.mem_append];rcases List.mem_cons.1 h with rfl|h
  · exact .inl hn
  exact .inr (Gh h n hn)
section
variable {H : Type} {enc : TypeId×Value→H} {W : World} {base : Nat}
theorem L7 {α:Type} [Inhabited α] {m:Nat} (hm0:0<m) {good:α→DataW H→Prop} {cells:α→Array Value} {st T:TypeId} (hst:Tryz.prog.underlying st=some (.slice T)) (hct:Tryz.prog.cellsOf T=m)
 (read:∀ {n:Nat} {cs:List Value} {y:DataW H×List MemPlace},DataW.trod enc Tryz.prog W base (fun _=>true) true n T cs=some y→∃x:α,good x y.1∧cs=(cells x).toList)
 {n:Nat} {cs:List Value} {y:DataW H×List MemPlace} (h:DataW.trod enc Tryz.prog W base (fun _=>true) true n st cs=some y) :
 ∃(ao:Option Addr) (l:List α) (cap:Nat),cs = [.slice ao l.length cap]∧(∀x∈l,∃d,good x d∧∀k∈d.weights Tryz.prog T,k∈y.1.weights Tryz.prog st)∧D9 m cells W ao l∧(l = []∨∃k∈y.1.weights Tryz.prog st,l.length*Tryz.prog.bytesOf T≤k):=by
 rcases open_slice hst h with⟨h0,_⟩|⟨a,len,cap,mm,n,D,Pl,hcs,hb,hl,hc,hmm,hx,hi⟩
 · exact⟨none,[],0,h0,fun x hx=>(by cases hx),fun i x hi=>(by simp at hi),.inl rfl⟩
 have hw:y.1.weights Tryz.prog st=(len+(mm-len))*Tryz.prog.bytesOf T::(DataW.weightsAll Tryz.prog T ((List.range len).map D)++DataW.weightsAll Tryz.prog T ((List.range (mm-len)).map fun j=>D (len+j))):=by
  rw[hx];simp[DataW.weights,hst]
 have one:∀i,i<len→∃x:α,good x (D i)∧∃g off,a=⟨g,off,none⟩∧Bz W g (off+i*m) (cells x):=fun i hil=>by
  obtain⟨cs',h1,h2⟩:=hi i (by rw[hmm];simp only[if_true];exact Nat.lt_of_lt_of_le hil hl);rw[hct] at h1;obtain⟨x,hg,rfl⟩:=read h2;obtain⟨_,hlen,h3⟩:=World.cells?_some h1;obtain⟨g,off,spot⟩:=a;cases spot with
  | none =>
   refine⟨x,hg,g,off,rfl,?_⟩;have:=Bz.Gg (w:=W) (g:=g) (o:=off+i*m) (m:=m) (cs:=(cells x).toList) hm0 hlen (fun j hj=>by have:=h3 j hj;simpa only[add_plain] using this);exact this
  | some s =>
   exfalso;obtain⟨cs',h1,h2⟩:=hi 0 (by rw[hmm];simp only[if_true];exact Nat.lt_of_lt_of_le (Nat.lt_of_le_of_lt (Nat.zero_le _) hil) hl);rw[hct] at h1;obtain⟨x,hg,rfl⟩:=read h2;obtain⟨_,hlen,h3⟩:=World.cells?_some h1;have k0:=h3 0 hm0;rw[JM _ _ (by simp[Addr.add])] at k0;have hp:0<(cells x).toList.length:=by rw[hlen];exact hm0
   rw[List.getElem?_eq_getElem hp] at k0;cases k0
 obtain⟨B,hB⟩:∃B:Nat→α,∀i,i<len→good (B i) (D i)∧∃g off,a=⟨g,off,none⟩∧Bz W g (off+i*m) (cells (B i)):=by
  refine⟨fun i=>if hi:i<len then Classical.choose (one i hi) else default,fun i hi=>?_⟩;simp only[dif_pos hi];exact Classical.choose_spec (one i hi)
 refine⟨some a,(List.range len).map B,cap,by rw[hcs];simp,fun x hx=>?_,fun i x hi=>?_,.inr ⟨_,by rw[hw];exact List.mem_cons_self ..,?_⟩⟩
 · obtain⟨j,hj,rfl⟩:=List.mem_map.1 hx
   refine⟨D j,(hB j (List.mem_range.1 hj)).1,fun k hk=>?_⟩;rw[hw];exact List.mem_cons_of_mem _ (List.mem_append.2 (.inl (Gh (List.mem_map_of_mem hj) k hk)))
 · have hil:i<len:=by
    have:=(List.getElem?_eq_some_iff.1 hi).1;simpa using this
   have:x=B i:=by simp[hil] at hi;exact hi.symm
   subst this;obtain⟨_,g,off,h1,h2⟩:=hB i hil;exact⟨g,off,by rw[h1],h2⟩
 rw[List.length_map,List.length_range];exact Nat.mul_le_mul_right _ (Nat.le_add_right _ _)
theorem SU:Tryz.prog.bytesOf 201=56:=by kernel_rfl
def Ce.Fits (x:Ce) (d:DataW H):Prop:=(∀k∈d.weights Tryz.prog 80,k≤reachBytes)→x.l.length*56≤140737488351232
theorem PC {n:Nat} {cs:List Value} {y:DataW H×List MemPlace} (h:DataW.trod enc Tryz.prog W base (fun _=>true) true n 80 cs=some y):∃x:Ce,(x.Good W∧x.Fits y.1)∧cs=x.cells.toList:=by
 obtain⟨x,hg,hx⟩:=PF h;refine⟨x,⟨hg,fun hw=>?_⟩,hx⟩;obtain⟨xs,m,rfl,rfl,hl,hxl,hf⟩:=DataW.trod_struct Tryz.underlying80 h;rw[G7] at hl;have hx6:xs.length=6:=hxl;have f4:=hf 4 ⟨ "L",78,4,false, "", "",72⟩ rfl;rw[List.getElem?_eq_getElem (l:=xs) (i:=4) (by omega)] at f4;simp only[Kr] at f4;obtain⟨ao,l,cap,e4,_,_,hk⟩:=L7 (good:=fun x _=>x.Good W) (m:=3) (by decide) (cells:=Br.cells) Tryz.underlying78 JH (fun h=>N7 h) f4
 have he:l.length=x.l.length:=by
  rw[hx] at e4;simp[Ce.cells] at e4;exact e4.2.1.symm
 rw[←he];rcases hk with rfl|⟨k,hk,hle⟩
 · exact Nat.zero_le _
 rw[SU] at hle
 have h1:=hw k (by
  simp only[DataW.weights,Tryz.underlying80];exact DataW.weights_mem_each (j:=4) (t:=78) (d:=(xs[4]'(by omega)).1) rfl (by rw[List.getElem?_map,List.getElem?_eq_getElem (by omega)];rfl) k hk)
 have h2:reachBytes=140737488351232:=by decide
 omega
theorem Ox:Tryz.prog.bytesOf 80=104:=by kernel_rfl
def Mo (W:World) (v:Value):Prop:=∃ao l cap,v=.slice ao (List.length l) cap∧G8 W ao l∧(∀a∈l,a.l.length*56≤140737488351232)∧l.length≤140737488351232
theorem Po {v:Value} {d:DataW H} {p:List MemPlace} (hv:Value.okWide Tryz.prog W .any base 72 v)
 (h:DataW.Trod enc Tryz.prog W 0 (fun _=>true) true 72 v d p) (hw:∀k∈d.weights Tryz.prog 72,k≤reachBytes):Mo W v:=by
 obtain⟨m,hm⟩:=h;obtain⟨ao,l,cap,e,h1,h2,h3⟩:=L7 (good:=fun x d=>x.Good W∧x.Fits d) (m:=6) (by decide) (cells:=Ce.cells) Tryz.underlying72 G7 (fun h=>PC h) hm;obtain⟨ao',len,cap',rfl⟩:=okWide_slice Tryz.underlying72 hv;simp only[Value.cells,List.cons.injEq,Value.slice.injEq,and_true] at e;obtain⟨rfl,rfl,rfl⟩:=e;refine⟨_,l,_,rfl,⟨fun x hx=>?_,h2⟩,fun x hx=>?_,?_⟩
 · obtain⟨d',hd,_⟩:=h1 x hx
   exact hd.1
 · obtain⟨d',hd,hk⟩:=h1 x hx
   exact hd.2 fun k hk'=>hw k (hk k hk')
 rcases h3 with rfl|⟨k,hk,hle⟩
 · exact Nat.zero_le _
 have:=hw k hk;rw[Ox] at hle;have h2:reachBytes=140737488351232:=by decide
 omega
end
end Go.Proofs.YtooijgcildbnlaaGreat.Law15
