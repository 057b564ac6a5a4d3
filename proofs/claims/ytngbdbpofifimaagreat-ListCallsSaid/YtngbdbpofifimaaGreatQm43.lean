/- Laws of the layers below. -/
import Derived.Test.YtngbdbpofifimaaGreatQm42
import Derived.Test.YtngbdbpofifimaaGreatQm40
set_option maxHeartbeats 3200000
set_option maxRecDepth 100000
set_option linter.unusedVariables false
namespace Go.Proofs.YtngbdbpofifimaaGreat.Store
open Go.RowKit Go.Proofs.YtngbdbpofifimaaGreat.ShaW Go.Proofs.YtngbdbpofifimaaGreat.Path Go.Proofs.YtngbdbpofifimaaGreat.Bk
def Small (W:World) (ao:Option Addr) (len:Nat):Prop:=∀i,i<len→∃(g off:Nat) (x:Bc),ao=some ⟨g,off,none⟩∧x.Good W∧D9 W g (off+i*35) x.cells∧x.val.length≤2000
section
variable {w0 w w' : World} {c s b n i : Nat} {σ : AG Nd} {root : Int} {L : Av} {A : List (Int×Av)} {G : Nat→Prop}
def Nb (w w':World) (room:Int) (ao:Option Addr) (len:Nat) (e:Ending):Prop:=∃B,e=.returned (.bool B)∧w=w'∧(B=false→1≤room∧room≤5000∧len≤16∧Small w ao len)
theorem SI (room:Int) {ao:Option Addr} {len:Nat} (cap:Nat) (ha:Gv w ao len) :
 Calls Tryz.prog 18 #[.int .i64 room,.slice ao len cap] w fun e w'=>Nb w w' room ao len e:=by
 by_cases h1:room<1
 · clear ha
   have b1:decide (room<1)=true:=decide_eq_true h1;go_enter Tryz.func18,Tryz.ntmps18;go_wp2;go_ret;exact⟨true,rfl,rfl,fun h=>(by cases h)⟩
 have b1:decide (room<1)=false:=decide_eq_false h1;by_cases h2:5000<room
 · clear ha
   have b2:decide (5000<room)=true:=decide_eq_true h2;go_enter Tryz.func18,Tryz.ntmps18;go_wp2;go_ret;exact⟨true,rfl,rfl,fun h=>(by cases h)⟩
 have b2:decide (5000<room)=false:=decide_eq_false h2;by_cases h3:(16:Int)<(len:Int)
 · clear ha
   have b3:decide ((16:Int)<(len:Int))=true:=decide_eq_true h3;go_enter Tryz.func18,Tryz.ntmps18;go_wp2;go_ret;exact⟨true,rfl,rfl,fun h=>(by cases h)⟩
 have b3:decide ((16:Int)<(len:Int))=false:=decide_eq_false h3;have HA:=(hIq ha (show 1≤room∧room≤5000∧len≤16 by omega))
 have hl16:len≤16:=by omega
 clear ha;go_enter Tryz.func18,Tryz.ntmps18;go_wp2;go_loopg [5] len (fun g s5 wr=>∃k:Nat,k≤len∧g=len-k∧s5=.int .i64 k∧wr=w∧Small w ao k)
 case atStart=>exact⟨0,Nat.zero_le _,rfl,rfl,rfl,fun i hi=>absurd hi (Nat.not_lt_zero i)⟩
 obtain⟨k,hk,rfl,rfl,rfl,hsm⟩:=hrel;have HSM:=Lib.hid hsm;clear hsm;by_cases hkl:k<len
 · obtain⟨g,off,x,rfl,hx,hp⟩:=HA.out.1 k hkl
   have cv:=Bk.D9.cellAt hp (Bc.I5 hx.key);have HX:=(hIq hx hp)
   obtain⟨vo,vc,hvv,_⟩:=hx.val.form;rw[hvv] at cv;obtain⟨vl,hvl⟩:∃vl,vl=x.val.length:=⟨_,rfl⟩
   rw[←hvl] at cv;have HVL:=Lib.hid hvl;have hki:(k:Int)<(len:Int):=by omega
   clear hx hp hvv hvl;by_cases hb:2000<vl
   · have hbi:(2000:Int)<(vl:Int):=by omega
     go_wp2;go_ret;exact⟨true,rfl,rfl,fun h=>(by cases h)⟩
   have hbi:¬(2000:Int)<(vl:Int):=by omega
   go_wp2;go_roundg (len-(k+1))
   case measure=>omega
   refine⟨k+1,by omega,rfl,by go_num,rfl,fun i hi=>?_⟩;by_cases e:i=k
   · subst e
     exact⟨g,off,x,rfl,HX.out.1,HX.out.2,by rw[←HVL.out];omega⟩
   exact HSM.out i (by omega)
 obtain rfl:k=len:=by omega
 have hki:¬(k:Int)<(k:Int):=by omega
 go_wp2;go_ret;exact⟨false,rfl,rfl,fun _=>⟨HA.out.2.1,HA.out.2.2.1,HA.out.2.2.2,HSM.out⟩⟩
def Lu (w w':World) (n len:Nat) (e:Ending):Prop:=∃(c s b:Nat) (σ:AG Nd) (root:Int) (L:Av) (A:List (Int×Av)),
 e=.returned (.tuple #[.pointer (some ⟨c,0,none⟩),.bool true])∧ScAt w w' c s b σ σ root (Aq A) (fun k=>k<w.heap.size)∧Sce σ root L A n len
theorem Uo (n:Nat) (h1:1≤n) (h2:n≤65536) {ao:Option Addr} {len:Nat} (cap:Nat) (hs:Small w ao len) (hl:len≤16) :
 Calls Tryz.prog 19 #[.int .i64 (n:Int),.slice ao len cap] w fun e w'=>Lu w w' n len e:=by
 unfold Lu;have hn:=VF n h1 h2 w;unfold OG at hn;have HN:=Lib.hid hn;have HS:=(hIq hs (Sce.new (n:=n) h1 h2))
 clear hn hs h1 h2;go_enter Tryz.func19,Tryz.ntmps19;go_wp2_with fail;refine HN.out.mono ?_;rintro e w1 ⟨c,s,b,rfl,S1⟩;have H1:=Lib.hid S1;clear S1;go_wp2;go_loopg [7,8] len (fun g s7 s8 wr=>∃(k:Nat) (σ:AG Nd) (root:Int) (L:Av) (A:List (Int×Av)),k≤len∧g=len-k∧s7=.bool true∧s8=.int .i64 k∧ScAt w wr c s b σ σ root (Aq A) (fun k=>k<w.heap.size)∧Sce σ root L A n k)
 case atStart=>exact⟨0,_,_,_,[],Nat.zero_le _,rfl,rfl,rfl,H1.out,HS.out.2⟩
 obtain⟨k,σ,root,L,A,hk,rfl,rfl,rfl,hS,hP⟩:=hrel;have HK:=(hIq hS hP)
 by_cases hkl:k<len
 · obtain⟨g,off,x,rfl,hx,hp,hv⟩:=HS.out.1 k hkl
   obtain⟨cur,t,fr,hr,hfit,hext⟩:=hp.Ae hS.world id;have hxs:=Bc.size hx.key;rw[hxs] at hfit hext;have hdo:=Ws hS hP (by omega) x hx hv;unfold DM at hdo;obtain⟨C,hC⟩:∃C,C=x.cells:=⟨_,rfl⟩
   rw[←hC] at hext hdo hxs;have HD:=Lib.hid hdo;have HR:=(hIq hr (aIq hfit hext))
   have hki:decide ((k:Int)<(len:Int))=true:=decide_eq_true (by omega);clear hr hfit hext hdo hC hx hp hxs hS hP hv
   go_wp2_with (first
    | fail
    | ((with_reducible show zOq (.load 146 _));refine AJ rfl 146 _ rfl g (off+k*35) rfl HR.out.1 Tryz.underlying146 rfl Ht HR.out.2.1 C HR.out.2.2 ?_))
   refine HD.out.mono ?_;rintro e w3 ⟨rfl,σ',root',L',A',S3,P3⟩;have H3:=(hIq S3 P3)
   clear S3 P3;go_wp2;go_roundg (len-(k+1))
   case measure=>omega
   exact⟨k+1,σ',root',L',A',by omega,rfl,rfl,by go_num,H3.out.1,H3.out.2⟩
 obtain rfl:k=len:=by omega
 have hki:decide ((k:Int)<(k:Int))=false:=decide_eq_false (by omega);clear hS hP;go_wp2;go_ret2;exact⟨c,s,b,σ,root,L,A,rfl,HK.out.1,HK.out.2⟩
end
end Go.Proofs.YtngbdbpofifimaaGreat.Store
namespace Go.Proofs.YtngbdbpofifimaaGreat.Store
open Go.Proofs.YtngbdbpofifimaaGreat.Law13
open Go.RowKit Go.Sort Go.Proofs.YtngbdbpofifimaaGreat.ShaW Go.Proofs.YtngbdbpofifimaaGreat.Path Go.Proofs.YtngbdbpofifimaaGreat.Bk
def Gz (wx:World) (E EF:Av) (q7 q8:Value) (ao5 ao6:Option Addr) (o5 o6:List Pr) (b7 b8:Nat):Prop :=
 SeqIs b7 wx E q7∧SeqIs b8 wx EF q8∧Ba wx ao5 o5∧Ba wx ao6 o6
theorem Gz.adds {wx wy:World} {E EF:Av} {q7 q8:Value} {ao5 ao6:Option Addr} {o5 o6:List Pr} {b7 b8:Nat} (h:Gz wx E EF q7 q8 ao5 ao6 o5 o6 b7 b8) (a:AN wx wy):Gz wy E EF q7 q8 ao5 ao6 o5 o6 b7 b8 :=
 ⟨h.1.adds a,h.2.1.adds a,h.2.2.1.Ae a (fun _=>fEq),h.2.2.2.Ae a (fun _=>fEq)⟩
theorem O0 {w:World} (room:Int) {ao:Option Addr} {len:Nat} (cap:Nat) (ha:Bk.Gv w ao len) (x:CJ) (hk:x.key.length=32) (ht:x.til.length=32) :
 Calls Tryz.prog 4 #[.int .i64 room,.slice ao len cap,.agg x.cells] w fun e w'=>e=.returned (.bool true)∧AN w w':=by
 have A0:AN w (w.alloc (.cells x.cells 49)):=(Ch.refl (fun _=>False) w).alloc _;have hL:=SI room cap (ha.Ae A0 (fun _=>fEq));unfold Nb at hL;have HL:=Lib.hid hL;obtain⟨W,hW⟩:∃W,W=w.alloc (.cells x.cells 49):=⟨_,rfl⟩
 have hgx:W.heap[w.heap.size]?=some (.cells x.cells 49 (0,0)):=by rw[hW];exact heap_alloc_new w _
 obtain⟨xb,hxb⟩:∃xb,xb=w.heap.size:=⟨_,rfl⟩
 rw[←hW] at A0 HL;rw[←hxb] at hgx;have hlt:=Ad hgx;have hcnt:=fun(wa wz:World) (c s b:Nat) (σ:AG Nd) (root:Int) (aside:List Int) (G:Nat→Prop) (T:Tr) (S:ScAt wa wz c s b σ σ root aside G) (GG:Good σ) hT hlv=>Qk (T:=T) S GG x hk ht hT hlv
 have hask:=fun(wz:World) (c:Nat) (p1 p2 v4:Value) (root:Int) h=>Kn (w:=wz) (c:=c) (p1:=p1) (p2:=p2) (v4:=v4) (root:=root) x hk ht h
 obtain⟨K,hK⟩:∃K,K=AS x.key:=⟨_,rfl⟩
 obtain⟨nn,hnn⟩:∃n,n=x.n:=⟨_,rfl⟩
 obtain⟨mo,hmo⟩:∃n,n=x.most:=⟨_,rfl⟩
 obtain⟨X,hX⟩:∃X,X=x.cells:=⟨_,rfl⟩
 have hXs:X.size=67:=by rw[hX];exact CJ.size hk ht
 have HX:=(hIq hXs (aIq (show X.extract 1 (1+32)=K by rw[hX,hK];exact CJ.Be hk) (aIq (show X[65]?=some (.int .i64 nn) by rw[hX,hnn];exact CJ.Wj hk ht) (show X[66]?=some (.int .i64 mo) by rw[hX,hmo];exact CJ.UP hk ht))))
 have HXX:=Lib.hid (show X.extract 0 (0+67)=X by simp[←hXs]);rw[←hX] at hgx hcnt hask hW ⊢;have HCNT:=Lib.hid hcnt;have HASK:=Lib.hid hask;have HK:=(hIq hK (aIq hmo hk))
 have HX0:=(hIq hgx (aIq hlt (aIq A0 hxb)))
 clear hL ha hcnt hask hK hnn hmo hX hXs hgx hlt A0;go_enter Tryz.func4,Tryz.ntmps4;go_wp2_with fail;simp only[←hW, ←hxb];clear hxb;refine HL.out.mono ?_;rintro e w1 ⟨B,rfl,rfl,hB⟩;cases B with
 | true =>
  clear hB hW;go_wp2;go_ret;exact⟨rfl,HX0.out.2.2.1⟩
 | false =>
 obtain⟨r1,r2,r3,hs⟩:=hB rfl;obtain⟨n,rfl⟩:∃n:Nat,room=n:=⟨room.toNat,by omega⟩
 have hP:=Uo (w:=W) n (by omega) (by omega) cap hs r3;unfold Lu at hP;have HP:=Lib.hid hP;clear hP hs r1 r2 r3 hW hB;go_wp2_with fail;refine HP.out.mono ?_;rintro e w2 ⟨c,s,b,σ,root,L,A,rfl,S2,P2⟩;have GG:=P2.roots.good;obtain⟨rt,hrt⟩:∃rt,rt=Gd x root:=⟨_,rfl⟩
 obtain⟨T,hT,hlv,hval⟩:=TC GG rt;obtain⟨vo,vc,hrow,_⟩:=S2.row;have hcnt:=fun wz (a:AN w2 wz)=>HCNT.out _ wz c s b σ root _ _ T (S2.adds a) GG (by rw[←hrt];exact hT) hlv
 have hask:=fun wz (a:AN w2 wz)=>HASK.out wz c _ _ _ root (a.row hrow id)
 rw[←hrt] at hask;have hgx2:=S2.world.row HX0.out.1 id;obtain⟨SC,hSC⟩:∃SC:Array Value,SC=#[.pointer (some ⟨s,0,none⟩),.pointer (some ⟨b,0,none⟩),.int .i64 root,.slice vo (Aq A).length vc]:=⟨_,rfl⟩
 rw[←hSC] at hrow;have HSC:=(hIq (show SC[0]?=some (.pointer (some ⟨s,0,none⟩)) by rw[hSC];rfl) (aIq (show SC[1]?=some (.pointer (some ⟨b,0,none⟩)) by rw[hSC];rfl) (show SC[2]?=some (.int .i64 root) by rw[hSC];rfl)))
 have hw2:=S2.world;obtain⟨ρ,F1,F2,vA,h1,h2,h3,h4,h5,h6,h7,h8,h9,h10,h11⟩:=S2;have F1lt:∀k,F1 k→k<w2.heap.size:=h1.lt;have hRO:ROw W w2 b σ F1:=⟨ρ,F2,h2,h3,fun k hk=>(h7 k hk).1,h10,fun k hk=>⟨fun hf=>(h7 k hf).2 hk,F1lt k hk⟩⟩
 have hall:=fun wz (a:AN w2 wz)=>GW hRO GG hT hlv a
 have hfrm:=fun wz (a:AN w2 wz)=>NZ (hRO.adds a) GG hT hlv HK.out.2.2
 have hAll:=fun wz (a:AN w2 wz)=>Wi (h1.adds a) GG hT
 have hFrm:=fun wz (a:AN w2 wz)=>SQ (h1.adds a) GG hT HK.out.2.2
 have hSom:=fun wz (a:AN w2 wz)=>(V9 (h1.adds a) GG hT HK.out.2.2 mo).mono fun e w' h=>h.one
 have hRSo:=fun wz (a:AN w2 wz)=>(Sx (hRO.adds a) GG hT hlv HK.out.2.2 mo).mono fun e w' h=>h.one
 have hdrp:=fun wz (a:At wz s F1 σ)=>Ja a root
 have hAt:=fun wz (a:AN w2 wz)=>h1.adds a
 have hel:=EZ (σ:=σ) (root:=rt) hlv;obtain⟨er,her⟩:∃er,er=AX σ rt:=⟨_,rfl⟩
 obtain⟨E,hE⟩:∃E,E=BE σ rt T:=⟨_,rfl⟩
 obtain⟨EF,hEF⟩:∃EF,EF=E.filter (geK x.key):=⟨_,rfl⟩
 rw[←her, ←hE] at hall hSom hRSo;rw[←hE] at hfrm hAll hFrm hel hval;rw[←hE] at *;obtain⟨se,hse⟩:∃se,se=EL er mo:=⟨_,rfl⟩
 obtain⟨SE,hSE⟩:∃SE,SE=Cp er mo EF:=⟨_,rfl⟩
 have hSEl:SE.length≤256:=by rw[hSE];exact MI _ _ _
 rw[←HK.out.1, ←hEF] at hfrm hFrm;rw[←HK.out.1, ←hEF, ←hse, ←hSE] at hSom hRSo;have hEFl:EF.length≤65536:=by rw[hEF];exact Nat.le_trans (List.length_filter_le _ _) hel
 have hEFv:∀e∈EF,e.2.length≤1024:=fun e he=>hval e (by rw[hEF] at he;exact(List.mem_filter.1 he).1)
 have FR:=Lib.hid (fun wz (a:AN w2 wz)=>aIq (a.row hrow id) (a.row hgx2 id));have HCN:=Lib.hid hcnt;have HAS:=Lib.hid hask;have HALL:=Lib.hid hall;have HFRM:=Lib.hid hfrm;have HAl:=Lib.hid hAll;have HFr:=Lib.hid hFrm;have HSo:=Lib.hid hSom;have HRSo:=Lib.hid hRSo;have HDR:=(hIq hdrp hAt)
 have HEL:=(hIq hel (aIq hEFl (aIq hSEl (aIq hval hEFv))))
 have HF1:=(hIq F1lt (aIq (fun k (hk:F1 k)=>Nat.le_trans HX0.out.2.2.1.size (h6 k hk)) (aIq (show ¬F1 xb from fun hf=>by have:=h6 xb hf;have:=HX0.out.2.1;omega) h8.2.1)))
 have HW2:=Lib.hid (HX0.out.2.2.1.trans hw2 (fun _=>fEq));have A2:=Lib.hid (Ch.refl (fun _=>False) w2);clear hcnt hask hall hfrm hAll hFrm hSom hRSo hdrp hAt hel hEFl hSEl hval hEFv h1 h2 h3 h4 h5 h6 h7 h8 h9 h10 h11 hRO F1lt hw2 hrow hgx2 hSC hT hlv her hE hEF hse hSE hrt GG P2 HCNT HASK HL HP
 go_wp2_with (first
  | fail
  | ((with_reducible show zOq (.load 49 _));refine Bg (by first|rfl|(simp[Region.wanted];done)) 49 _ rfl xb 0 rfl (FR.out _ (Ch.refl _ _)).2 Tryz.underlying49 rfl MY (by rw[HX.out.1];omega) X HXX.out ?_))
 refine(HCN.out _ (Ch.refl _ _)).mono ?_;rintro e w3 ⟨rfl,a⟩;have A3:=Lib.hid a;clear a
 go_wp2_with (first
  | fail
  | ((with_reducible show zOq (.load 49 _));refine AJ rfl 49 _ rfl xb 0 rfl (FR.out _ A3.out).2 Tryz.underlying49 rfl MY (by rw[HX.out.1];omega) X HXX.out ?_))
 refine(HAS.out _ A3.out).mono ?_;rintro e w4 ⟨rfl,a⟩;have A4:=Lib.hid (A3.out.trans a (fun _=>fEq));have c1:=AH (FR.out _ A4.out).1 HSC.out.2.1;clear a;go_wp2_with fail;refine(HALL.out _ A4.out).mono ?_;rintro e w5 ⟨a,ao5,o5,cap5,rfl,hrow5,hg5,he5,hq5⟩;obtain⟨n5,hn5⟩:∃n,n=o5.length:=⟨_,rfl⟩
 have H5:RowKit.Hid (Ba w5 ao5 o5∧(∀j,(Value.slice ao5 o5.length cap5).ownBlock=some j→w2.heap.size≤j)∧(∀x∈o5,∀j,x.vv.ownBlock=some j→¬F1 j)∧o5.map Pr.ent=E∧n5=o5.length):=Lib.hid (by
  obtain⟨ao',cap',e',hp'⟩:=FD hrow5 hg5;obtain rfl:ao'=ao5:=by injection e' with h _ _;exact h.symm
  exact⟨hp',fun j hj=>Nat.le_trans A4.out.size (hrow5.lt j hj).1,fun x hx j hj=>(hq5 x hx j hj).2,he5,hn5⟩)
 have A5:=Lib.hid (A4.out.trans a (fun _=>fEq));rw[←hn5];clear a c1 hrow5 hg5 he5 hq5 hn5;go_wp2_with fail;refine AP (fun wz=>wz.heap[c]?=some (.cells SC 63 (0,0))∧wz.heap[xb]?=some (.cells X 49 (0,0))∧AN w2 wz) 9 [(0,false),(1,false),(2,false),(3,false),(4,false),(5,false),(6,false),(7,true),(8,false)] (by kernel_rfl) (by kernel_rfl) ?_ ?_
 · exact⟨AM (FR.out _ A5.out).1,AM (FR.out _ A5.out).2,(A5.out).drew⟩
 iterate 3
  refine plan_look rfl rfl (fun w0 hS=>(by clear hS;go_simp;try rfl)) ?_;simp only[Act.put,nAq,nBq,nCq]
 refine plan_look (v:=.pointer (some ⟨b,0,none⟩)) rfl rfl (fun w0 hS=>(by have c1:=AH hS.1 HSC.out.2.1;clear hS;go_simp;try rfl)) ?_;simp only[Act.put,nAq,nBq,nCq]
 iterate 2
  refine plan_look rfl rfl (fun w0 hS=>(by clear hS;go_simp;try rfl)) ?_;simp only[Act.put,nAq,nBq,nCq]
 refine Aa (cur:=X) (t:=49) (fr:=(0,0)) rfl rfl 47 _ rfl xb 1 32 rfl (fun w0 hS=>hS.2.1) Tryz.underlying47 rfl Ab (by rw[HX.out.1];omega) K HX.out.2.1 ?_;simp only[Act.put,nAq,nBq,nCq];refine AW rfl ?_;go_wp2_with fail;refine(HFRM.out _ A5.out.drew).mono ?_;rintro e w6 ⟨a,ao6,o6,cap6,rfl,hc6,hp6,he6,hb6,hq6⟩;obtain⟨n6,hn6⟩:∃n,n=o6.length:=⟨_,rfl⟩
 have H6:RowKit.Hid (Ba w6 ao6 o6∧(∀j,(Value.slice ao6 o6.length cap6).ownBlock=some j→w2.heap.size≤j)∧(∀x∈o6,∀j,x.vv.ownBlock=some j→¬F1 j)∧o6.map Pr.ent=EF∧n6=o6.length):=Lib.hid ⟨hp6,fun j hj=>Nat.le_trans A5.out.size (hb6 j hj),hq6,he6,hn6⟩;rw[←hn6];have S6:RowKit.Hid (AN w5 w6):=Lib.hid (((Ch.refl (fun _=>False) w5).drew).trans a (fun _=>fEq));clear hp6 hb6 hq6 he6 hn6 hc6;have A6:=Lib.hid ((A5.out.drew).trans a (fun _=>fEq));clear a;dsimp only;go_step;refine wpList_nil ?_;change _∧_;refine⟨⟨(FR.out _ A6.out).1,(FR.out _ A6.out).2,A6.out⟩,?_⟩
 iterate 1
  refine plan_look rfl rfl (fun w0 hS=>(by clear hS;go_simp;try rfl)) ?_;simp only[Act.put,nAq,nBq,nCq]
 refine AZ ?_;simp only[List.drop_succ_cons,List.drop_zero];refine NoPanic.normal ?_;go_wp2_with fail;refine AP (fun wz=>wz.heap[c]?=some (.cells SC 63 (0,0))∧wz.heap[xb]?=some (.cells X 49 (0,0))∧AN w2 wz) 16 [(0,false),(1,false),(2,false),(3,false),(4,false),(6,false),(7,false),(8,false),(9,false),(10,false),(11,false),(12,false),(5,true),(13,true),(14,false),(15,false)] (by kernel_rfl) (by kernel_rfl) ?_ ?_
 · exact⟨AM (FR.out _ A6.out).1,AM (FR.out _ A6.out).2,(A6.out).drew⟩
 iterate 3
  refine plan_look rfl rfl (fun w0 hS=>(by clear hS;go_simp;try rfl)) ?_;simp only[Act.put,nAq,nBq,nCq]
 refine plan_look (v:=.pointer (some ⟨s,0,none⟩)) rfl rfl (fun w0 hS=>(by have c1:=AH hS.1 HSC.out.1;clear hS;go_simp;try rfl)) ?_;simp only[Act.put,nAq,nBq,nCq]
 iterate 1
  refine plan_look rfl rfl (fun w0 hS=>(by clear hS;go_simp;try rfl)) ?_;simp only[Act.put,nAq,nBq,nCq]
 iterate 3
  refine plan_look rfl rfl (fun w0 hS=>(by clear hS;go_simp;try rfl)) ?_;simp only[Act.put,nAq,nBq,nCq]
 refine plan_look (v:=.pointer (some ⟨s,0,none⟩)) rfl rfl (fun w0 hS=>(by have c1:=AH hS.1 HSC.out.1;clear hS;go_simp;try rfl)) ?_;simp only[Act.put,nAq,nBq,nCq]
 iterate 2
  refine plan_look rfl rfl (fun w0 hS=>(by clear hS;go_simp;try rfl)) ?_;simp only[Act.put,nAq,nBq,nCq]
 refine Aa (cur:=X) (t:=49) (fr:=(0,0)) rfl rfl 47 _ rfl xb 1 32 rfl (fun w0 hS=>hS.2.1) Tryz.underlying47 rfl Ab (by rw[HX.out.1];omega) K HX.out.2.1 ?_;simp only[Act.put,nAq,nBq,nCq];refine AW rfl ?_;go_wp2_with fail;refine(HAl.out _ A6.out.drew).mono ?_;rintro e w7 ⟨q7,rfl,hq7,a⟩;have H7:=Lib.hid hq7;have S7:RowKit.Hid (AN w6 w7):=Lib.hid (((Ch.refl (fun _=>False) w6).drew).trans a (fun _=>fEq));clear hq7;have A7:=Lib.hid ((A6.out.drew).trans a (fun _=>fEq));clear a;dsimp only;go_step;refine wpList_nil ?_;change _∧_;refine⟨⟨(FR.out _ A7.out).1,(FR.out _ A7.out).2,A7.out⟩,?_⟩;refine AW rfl ?_;go_wp2_with fail;refine(HFr.out _ A7.out).mono ?_;rintro e w8 ⟨q8,rfl,hq8,a⟩;have H8:=Lib.hid hq8;have S8:RowKit.Hid (AN w7 w8):=Lib.hid (a);clear hq8;have A8:=Lib.hid ((A7.out).trans a (fun _=>fEq));clear a;dsimp only;go_step;refine wpList_nil ?_;change _∧_;refine⟨⟨(FR.out _ A8.out).1,(FR.out _ A8.out).2,A8.out⟩,?_⟩
 iterate 2
  refine plan_look rfl rfl (fun w0 hS=>(by clear hS;go_simp;try rfl)) ?_;simp only[Act.put,nAq,nBq,nCq]
 refine AZ ?_;simp only[List.drop_succ_cons,List.drop_zero];refine NoPanic.normal ?_;go_wp2_with fail;refine AP (fun wz=>wz.heap[c]?=some (.cells SC 63 (0,0))∧wz.heap[xb]?=some (.cells X 49 (0,0))∧AN w2 wz) 15 [(0,false),(1,false),(2,false),(3,false),(4,false),(5,false),(6,false),(7,false),(8,false),(9,true),(10,false),(11,false),(12,false),(13,false),(14,false)] (by kernel_rfl) (by kernel_rfl) ?_ ?_
 · exact⟨AM (FR.out _ A8.out).1,AM (FR.out _ A8.out).2,(A8.out).drew⟩
 iterate 3
  refine plan_look rfl rfl (fun w0 hS=>(by clear hS;go_simp;try rfl)) ?_;simp only[Act.put,nAq,nBq,nCq]
 refine plan_look (v:=.pointer (some ⟨s,0,none⟩)) rfl rfl (fun w0 hS=>(by have c1:=AH hS.1 HSC.out.1;clear hS;go_simp;try rfl)) ?_;simp only[Act.put,nAq,nBq,nCq]
 iterate 2
  refine plan_look rfl rfl (fun w0 hS=>(by clear hS;go_simp;try rfl)) ?_;simp only[Act.put,nAq,nBq,nCq]
 refine Aa (cur:=X) (t:=49) (fr:=(0,0)) rfl rfl 47 _ rfl xb 1 32 rfl (fun w0 hS=>hS.2.1) Tryz.underlying47 rfl Ab (by rw[HX.out.1];omega) K HX.out.2.1 ?_;simp only[Act.put,nAq,nBq,nCq]
 iterate 1
  refine plan_look rfl rfl (fun w0 hS=>(by clear hS;go_simp;try rfl)) ?_;simp only[Act.put,nAq,nBq,nCq]
 refine plan_look (v:=.int .i64 mo) rfl rfl (fun w0 hS=>(by have c1:=AH hS.2.1 HX.out.2.2.2;clear hS;go_simp;try rfl)) ?_;simp only[Act.put,nAq,nBq,nCq];refine AW rfl ?_;go_wp2_with fail;refine(HSo.out _ A8.out.drew).mono ?_;rintro e w9 ⟨a,ao9,o9,cap9,rfl,hp9,he9⟩;obtain⟨n9,hn9⟩:∃n,n=o9.length:=⟨_,rfl⟩
 have H9:=(hIq hp9 (aIq he9 hn9))
 rw[←hn9];have S9:RowKit.Hid (AN w8 w9):=Lib.hid (((Ch.refl (fun _=>False) w8).drew).trans a (fun _=>fEq));clear hp9 he9 hn9;have A9:=Lib.hid ((A8.out.drew).trans a (fun _=>fEq));clear a;dsimp only;go_step;refine wpList_nil ?_;change _∧_;refine⟨⟨(FR.out _ A9.out).1,(FR.out _ A9.out).2,A9.out⟩,?_⟩
 iterate 5
  refine plan_look rfl rfl (fun w0 hS=>(by clear hS;go_simp;try rfl)) ?_;simp only[Act.put,nAq,nBq,nCq]
 refine AZ ?_;simp only[List.drop_succ_cons,List.drop_zero];refine NoPanic.normal ?_;go_wp2_with fail;refine AP (fun wz=>wz.heap[c]?=some (.cells SC 63 (0,0))∧wz.heap[xb]?=some (.cells X 49 (0,0))∧AN w2 wz) 15 [(0,false),(1,false),(2,false),(3,false),(4,false),(5,false),(6,false),(7,false),(8,false),(9,true),(10,false),(11,false),(12,false),(13,false),(14,false)] (by kernel_rfl) (by kernel_rfl) ?_ ?_
 · exact⟨AM (FR.out _ A9.out).1,AM (FR.out _ A9.out).2,(A9.out).drew⟩
 iterate 3
  refine plan_look rfl rfl (fun w0 hS=>(by clear hS;go_simp;try rfl)) ?_;simp only[Act.put,nAq,nBq,nCq]
 refine plan_look (v:=.pointer (some ⟨s,0,none⟩)) rfl rfl (fun w0 hS=>(by have c1:=AH hS.1 HSC.out.1;clear hS;go_simp;try rfl)) ?_;simp only[Act.put,nAq,nBq,nCq]
 iterate 2
  refine plan_look rfl rfl (fun w0 hS=>(by clear hS;go_simp;try rfl)) ?_;simp only[Act.put,nAq,nBq,nCq]
 refine Aa (cur:=X) (t:=49) (fr:=(0,0)) rfl rfl 47 _ rfl xb 1 32 rfl (fun w0 hS=>hS.2.1) Tryz.underlying47 rfl Ab (by rw[HX.out.1];omega) K HX.out.2.1 ?_;simp only[Act.put,nAq,nBq,nCq]
 iterate 1
  refine plan_look rfl rfl (fun w0 hS=>(by clear hS;go_simp;try rfl)) ?_;simp only[Act.put,nAq,nBq,nCq]
 refine plan_look (v:=.int .i64 mo) rfl rfl (fun w0 hS=>(by have c1:=AH hS.2.1 HX.out.2.2.2;clear hS;go_simp;try rfl)) ?_;simp only[Act.put,nAq,nBq,nCq];refine AW rfl ?_;go_wp2_with fail;refine(HSo.out _ A9.out.drew).mono ?_;rintro e wa ⟨a,aoa,oa,capa,rfl,hpa,hea⟩;obtain⟨na,hna⟩:∃n,n=oa.length:=⟨_,rfl⟩
 have Ha:=(hIq hpa (aIq hea hna))
 rw[←hna];have Sa:RowKit.Hid (AN w9 wa):=Lib.hid (((Ch.refl (fun _=>False) w9).drew).trans a (fun _=>fEq));clear hpa hea hna;have AA:=Lib.hid ((A9.out.drew).trans a (fun _=>fEq));clear a;dsimp only;go_step;refine wpList_nil ?_;change _∧_;refine⟨⟨(FR.out _ AA.out).1,(FR.out _ AA.out).2,AA.out⟩,?_⟩
 iterate 5
  refine plan_look rfl rfl (fun w0 hS=>(by clear hS;go_simp;try rfl)) ?_;simp only[Act.put,nAq,nBq,nCq]
 refine AZ ?_;simp only[List.drop_succ_cons,List.drop_zero];refine NoPanic.normal ?_;go_wp2_with fail;refine AP (fun wz=>wz.heap[c]?=some (.cells SC 63 (0,0))∧wz.heap[xb]?=some (.cells X 49 (0,0))∧AN w2 wz) 15 [(0,false),(1,false),(2,false),(3,false),(4,false),(5,false),(6,false),(7,false),(8,false),(9,true),(10,false),(11,false),(12,false),(13,false),(14,false)] (by kernel_rfl) (by kernel_rfl) ?_ ?_
 · exact⟨AM (FR.out _ AA.out).1,AM (FR.out _ AA.out).2,(AA.out).drew⟩
 iterate 3
  refine plan_look rfl rfl (fun w0 hS=>(by clear hS;go_simp;try rfl)) ?_;simp only[Act.put,nAq,nBq,nCq]
 refine plan_look (v:=.pointer (some ⟨b,0,none⟩)) rfl rfl (fun w0 hS=>(by have c1:=AH hS.1 HSC.out.2.1;clear hS;go_simp;try rfl)) ?_;simp only[Act.put,nAq,nBq,nCq]
 iterate 2
  refine plan_look rfl rfl (fun w0 hS=>(by clear hS;go_simp;try rfl)) ?_;simp only[Act.put,nAq,nBq,nCq]
 refine Aa (cur:=X) (t:=49) (fr:=(0,0)) rfl rfl 47 _ rfl xb 1 32 rfl (fun w0 hS=>hS.2.1) Tryz.underlying47 rfl Ab (by rw[HX.out.1];omega) K HX.out.2.1 ?_;simp only[Act.put,nAq,nBq,nCq]
 iterate 1
  refine plan_look rfl rfl (fun w0 hS=>(by clear hS;go_simp;try rfl)) ?_;simp only[Act.put,nAq,nBq,nCq]
 refine plan_look (v:=.int .i64 mo) rfl rfl (fun w0 hS=>(by have c1:=AH hS.2.1 HX.out.2.2.2;clear hS;go_simp;try rfl)) ?_;simp only[Act.put,nAq,nBq,nCq];refine AW rfl ?_;go_wp2_with fail;refine(HRSo.out _ AA.out.drew).mono ?_;rintro e wb ⟨a,aob,ob,capb,rfl,hpb,heb⟩;obtain⟨nb,hnb⟩:∃n,n=ob.length:=⟨_,rfl⟩
 have Hb:=(hIq hpb (aIq heb hnb))
 rw[←hnb];have Sb:RowKit.Hid (AN wa wb):=Lib.hid (((Ch.refl (fun _=>False) wa).drew).trans a (fun _=>fEq));clear hpb heb hnb;have AB:=Lib.hid ((AA.out.drew).trans a (fun _=>fEq));clear a;dsimp only;go_step;refine wpList_nil ?_;change _∧_;refine⟨⟨(FR.out _ AB.out).1,(FR.out _ AB.out).2,AB.out⟩,?_⟩
 iterate 5
  refine plan_look rfl rfl (fun w0 hS=>(by clear hS;go_simp;try rfl)) ?_;simp only[Act.put,nAq,nBq,nCq]
 refine AZ ?_;simp only[List.drop_succ_cons,List.drop_zero];refine NoPanic.normal ?_;have l9:o9.length≤256:=by have:=HEL.out.2.2.1;rw[←H9.out.2.1,List.length_map] at this;exact this
 have la:oa.length≤256:=by have:=HEL.out.2.2.1;rw[←Ha.out.2.1,List.length_map] at this;exact this
 have lb:ob.length≤256:=by have:=HEL.out.2.2.1;rw[←Hb.out.2.1,List.length_map] at this;exact this
 have tb:Told w8.heap.size wb (.slice ao9 o9.length cap9) o9:=(H9.out.1.adds Sa.out).adds Sb.out;have ta:Told w9.heap.size wb (.slice aoa oa.length capa) oa:=Ha.out.1.adds Sb.out
 have p9:Ba wb ao9 o9:=by
  obtain⟨ao',cap',e',hp'⟩:=tb.row.VU tb.good;obtain rfl:ao'=ao9:=by injection e' with h _ _;exact h.symm
  exact hp'
 have pa:Ba wb aoa oa:=by
  obtain⟨ao',cap',e',hp'⟩:=ta.row.VU ta.good;obtain rfl:ao'=aoa:=by injection e' with h _ _;exact h.symm
  exact hp'
 have hsp9:=fun wz (a:AN wb wz)=>Ii cap9 capb (p9.Ae a (fun _=>fEq)) (Hb.out.1.Ae a (fun _=>fEq)) (by omega) (by omega)
 have hspa:=fun wz (a:AN wb wz)=>Ii capa capb (pa.Ae a (fun _=>fEq)) (Hb.out.1.Ae a (fun _=>fEq)) (by omega) (by omega)
 rw[H9.out.2.1,Hb.out.2.1,decide_eq_true (rfl:SE=SE), ←H9.out.2.2, ←Hb.out.2.2] at hsp9;rw[Ha.out.2.1,Hb.out.2.1,decide_eq_true (rfl:SE=SE), ←Ha.out.2.2, ←Hb.out.2.2] at hspa
 have hvo:=fun(wz:World) (gl:Nat) (a:AN wb wz) (hr:wz.heap[gl]?=some (.cells #[.slice ao9 n9 cap9,.slice aoa na capa] 56 (0,0))) =>
  ValuesOf_ok (w:=wz) (gl:=gl) (cp:=fun j=>if j=0 then cap9 else capa) (ao:=fun j=>if j=0 then ao9 else aoa) (ls:=fun j=>if j=0 then o9 else oa) (by rw[H9.out.2.2,Ha.out.2.2] at hr;exact hr)
   (fun j hj=>by rcases j with _|_|j<;>first|exact p9.Ae a (fun _=>fEq)|exact pa.Ae a (fun _=>fEq)|omega) (fun j hj=>by rcases j with _|_|j<;>first|(show o9.length≤300;omega)|(show oa.length≤300;omega)|omega)
 have h89:w8.heap.size≤w9.heap.size:=S9.out.size
 have hap:=fun(wy wz:World) (v:Value) (ay:AN wb wy) (hv:VI wy wz v (vals (fun j=>if j=0 then o9 else oa) 2))=>Qm (C:=fun k=>w8.heap.size≤k) (w:=wz) hv.own
  (fun x hx=>(Is ((tb.adds ay).adds hv.adds) ((ta.adds ay).adds hv.adds) h89 x hx).1) (Tj ((tb.adds ay).adds hv.adds) ((ta.adds ay).adds hv.adds) (fun x hx k hk=>((H9.out.1.vals x hx).2.2 k hk).2.1))
  (fun x hx k hk e=>by have h1:=hv.new k e;have h2:=((Is (tb.adds ay) (ta.adds ay) h89 x hx).2 k hk).2;omega) (by rw[SJ];omega) (fun x hx k hk=>((Is tb ta h89 x hx).2 k hk).1)
 have HS9:=Lib.hid hsp9;have HSA:=Lib.hid hspa;have HVO:=Lib.hid hvo;have HAP:=Lib.hid hap;clear l9 la lb tb ta p9 pa hsp9 hspa hvo h89 hap;go_wp2_with fail;refine(HS9.out _ (Ch.refl _ _)).mono ?_;rintro e wc ⟨rfl,ac⟩;have AC:=Lib.hid ac;clear ac;go_wp2_with fail;refine(HSA.out _ AC.out).mono ?_;rintro e wd ⟨rfl,ad⟩;have AD:=Lib.hid (AC.out.trans ad (fun _=>fEq));clear ad AC;go_wp2_with fail;have ae:AN wb (wd.alloc (.cells #[.slice ao9 n9 cap9,.slice aoa na capa] 56)):=AD.out.trans ((Ch.refl (fun _=>False) wd).alloc _) (fun _=>fEq);refine(HVO.out _ _ ae (heap_alloc_new _ _)).mono ?_;rintro e we ⟨vv,rfl,hv⟩;have hap:=HAP.out _ _ vv ae hv;have AE:=Lib.hid (ae.trans hv.adds (fun _=>fEq));have HA2:=Lib.hid hap;clear ae hv hap HVO HAP HS9 HSA AD;go_wp2_with fail;refine HA2.out.mono ?_;rintro e wf ⟨rfl,hf⟩;have AF:RowKit.Hid (AN w8 wf):=Lib.hid ((((S9.out.trans Sa.out (fun _=>fEq)).trans Sb.out (fun _=>fEq)).trans AE.out (fun _=>fEq)).trans hf (fun k hk=>.inr hk));have A7f:AN w7 wf:=S8.out.trans AF.out (fun _=>fEq);have A6f:AN w6 wf:=S7.out.trans A7f (fun _=>fEq);have A5f:AN w5 wf:=S6.out.trans A6f (fun _=>fEq);have HLF:RowKit.Hid (Gz wf E EF q7 q8 ao5 ao6 o5 o6 w6.heap.size w7.heap.size):=Lib.hid ⟨H7.out.adds A7f,H8.out.adds AF.out,H5.out.1.Ae A5f (fun _=>fEq),H6.out.1.Ae A6f (fun _=>fEq)⟩;have A2f:=Lib.hid (A8.out.trans AF.out (fun _=>fEq));have z6:=A6.out.size;have z7:=A7.out.size
 have hlo:∀wx,Ch F1 wf wx→Gz wx E EF q7 q8 ao5 ao6 o5 o6 w6.heap.size w7.heap.size:=fun wx hc =>
  ⟨HLF.out.1.out hc (fun k hk=>Nat.lt_of_lt_of_le (HF1.out.1 k hk) z6),HLF.out.2.1.out hc (fun k hk=>Nat.lt_of_lt_of_le (HF1.out.1 k hk) z7),
   pairs_out HLF.out.2.2.1 hc (fun j hj hf=>by have h1:=H5.out.2.1 j hj;have h2:=HF1.out.1 j hf;omega) (fun x hx j hj=>H5.out.2.2.1 x hx j hj),
   pairs_out HLF.out.2.2.2 hc (fun j hj hf=>by have h1:=H6.out.2.1 j hj;have h2:=HF1.out.1 j hf;omega) (fun x hx j hj=>H6.out.2.2.1 x hx j hj)⟩
 have hg7:=fun(wz:World) (h:Gz wz E EF q7 q8 ao5 ao6 o5 o6 w6.heap.size w7.heap.size) (stop:Int)=>Pd h.1 cap5 h.2.2.1 H5.out.2.2.2.1.symm (by have h1:=HEL.out.1;rw[←H5.out.2.2.2.1,List.length_map] at h1;exact h1)
  (fun x hx=>HEL.out.2.2.2.1 x.ent (by rw[←H5.out.2.2.2.1];exact List.mem_map.2 ⟨x,hx,rfl⟩)) stop
 have hg8:=fun(wz:World) (h:Gz wz E EF q7 q8 ao5 ao6 o5 o6 w6.heap.size w7.heap.size) (stop:Int)=>Pd h.2.1 cap6 h.2.2.2 H6.out.2.2.2.1.symm (by have h1:=HEL.out.2.1;rw[←H6.out.2.2.2.1,List.length_map] at h1;exact h1)
  (fun x hx=>HEL.out.2.2.2.2 x.ent (by rw[←H6.out.2.2.2.1];exact List.mem_map.2 ⟨x,hx,rfl⟩)) stop
 rw[←H5.out.2.2.2.2] at hg7;rw[←H6.out.2.2.2.2] at hg8;have HLO:=Lib.hid hlo;have HG7:=Lib.hid hg7;have HG8:=Lib.hid hg8;clear hf A7f A6f A5f z6 z7 hlo hg7 hg8 HA2 AE;have c1:=AH (FR.out _ A2f.out).1 HSC.out.2.2;by_cases hr0:root=0
 · go_wp2_with fail
   have HLX:=Lib.hid (HLO.out wf (Ch.refl _ _));have c5:=AH (FR.out _ A2f.out).2 HX.out.2.2.1;have CHX:=Lib.hid (Ch.refl F1 wf);clear c1 hr0;refine(HG7.out _ HLX.out 0).mono ?_;rintro e g1 ⟨rfl,a⟩;have Lg1:=Lib.hid (HLX.out.adds a);have Xg1:RowKit.Hid (AN wf g1):=Lib.hid (a);have c5:=(show AN wf g1 from a).cell c5 id;clear a;go_wp2_with fail;refine(HG8.out _ Lg1.out 0).mono ?_;rintro e g2 ⟨rfl,a⟩;have Lg2:=Lib.hid (Lg1.out.adds a);have Xg2:RowKit.Hid (AN wf g2):=Lib.hid (Xg1.out.trans a (fun _=>fEq));have c5:=(show AN g1 g2 from a).cell c5 id;clear a;go_wp2_with fail;refine(HG7.out _ Lg2.out nn).mono ?_;rintro e g3 ⟨rfl,a⟩;have Lg3:=Lib.hid (Lg2.out.adds a);have Xg3:RowKit.Hid (AN wf g3):=Lib.hid (Xg2.out.trans a (fun _=>fEq));have c5:=(show AN g2 g3 from a).cell c5 id;clear a;go_wp2_with fail;refine(HG8.out _ Lg3.out nn).mono ?_;rintro e g4 ⟨rfl,a⟩;have Lg4:=Lib.hid (Lg3.out.adds a);have Xg4:RowKit.Hid (AN wf g4):=Lib.hid (Xg3.out.trans a (fun _=>fEq));have c5:=(show AN g3 g4 from a).cell c5 id;clear a;go_wp2_with fail;refine(HG7.out _ Lg4.out 0).mono ?_;rintro e g5 ⟨rfl,a⟩;have Lg5:=Lib.hid (Lg4.out.adds a);have Xg5:RowKit.Hid (AN wf g5):=Lib.hid (Xg4.out.trans a (fun _=>fEq));clear a;go_wp2;go_ret;exact⟨rfl,((HW2.out.trans A2f.out (fun _=>fEq)).trans CHX.out (fun k hk=>.inr (HF1.out.2.1 k hk))).trans Xg5.out (fun _=>fEq)⟩
 go_upto_region 16 with fail;clear c1;refine AP (fun wz=>wz.heap[c]?=some (.cells SC 63 (0,0))∧True) 9 [(0,false),(1,false),(2,false),(3,false),(4,false),(5,false),(6,false),(7,false),(8,true)] (by kernel_rfl) (by kernel_rfl) ?_ ?_
 · exact⟨AM (FR.out _ A2f.out).1,trivial⟩
 iterate 3
  refine plan_look rfl rfl (fun w0 hS=>(by clear hS;go_simp;try rfl)) ?_;simp only[Act.put,nAq,nBq,nCq]
 refine plan_look (v:=.pointer (some ⟨s,0,none⟩)) rfl rfl (fun w0 hS=>(by have c1:=AH hS.1 HSC.out.1;clear hS;go_simp;try rfl)) ?_;simp only[Act.put,nAq,nBq,nCq]
 iterate 3
  refine plan_look rfl rfl (fun w0 hS=>(by clear hS;go_simp;try rfl)) ?_;simp only[Act.put,nAq,nBq,nCq]
 refine plan_look (v:=.int .i64 root) rfl rfl (fun w0 hS=>(by have c1:=AH hS.1 HSC.out.2.2;clear hS;go_simp;try rfl)) ?_;simp only[Act.put,nAq,nBq,nCq];refine AW rfl ?_;go_wp2_with fail;refine(HDR.out.1 _ (HDR.out.2 _ A2f.out.drew)).mono ?_;rintro e wx ⟨rfl,F',_,hc,_⟩;have CHX:RowKit.Hid (Ch F1 wf wx):=Lib.hid ((Ch.refl F1 wf).drew.Bj hc);have HLX:=Lib.hid (HLO.out wx CHX.out);have c5:=AH (CHX.out.row (FR.out _ A2f.out).2 HF1.out.2.2.1) HX.out.2.2.1;clear hc;dsimp only;go_step;refine wpList_nil ?_;change _∧_;refine⟨⟨CHX.out.row (FR.out _ A2f.out).1 HF1.out.2.2.2,trivial⟩,?_⟩;refine AZ ?_;simp only[List.drop_succ_cons,List.drop_zero];refine NoPanic.normal ?_;go_wp2_with fail;refine(HG7.out _ HLX.out 0).mono ?_;rintro e g1 ⟨rfl,a⟩;have Lg1:=Lib.hid (HLX.out.adds a);have Xg1:RowKit.Hid (AN wx g1):=Lib.hid (a);have c5:=(show AN wx g1 from a).cell c5 id;clear a;go_wp2_with fail;refine(HG8.out _ Lg1.out 0).mono ?_;rintro e g2 ⟨rfl,a⟩;have Lg2:=Lib.hid (Lg1.out.adds a);have Xg2:RowKit.Hid (AN wx g2):=Lib.hid (Xg1.out.trans a (fun _=>fEq));have c5:=(show AN g1 g2 from a).cell c5 id;clear a;go_wp2_with fail;refine(HG7.out _ Lg2.out nn).mono ?_;rintro e g3 ⟨rfl,a⟩;have Lg3:=Lib.hid (Lg2.out.adds a);have Xg3:RowKit.Hid (AN wx g3):=Lib.hid (Xg2.out.trans a (fun _=>fEq));have c5:=(show AN g2 g3 from a).cell c5 id;clear a;go_wp2_with fail;refine(HG8.out _ Lg3.out nn).mono ?_;rintro e g4 ⟨rfl,a⟩;have Lg4:=Lib.hid (Lg3.out.adds a);have Xg4:RowKit.Hid (AN wx g4):=Lib.hid (Xg3.out.trans a (fun _=>fEq));have c5:=(show AN g3 g4 from a).cell c5 id;clear a;go_wp2_with fail;refine(HG7.out _ Lg4.out 0).mono ?_;rintro e g5 ⟨rfl,a⟩;have Lg5:=Lib.hid (Lg4.out.adds a);have Xg5:RowKit.Hid (AN wx g5):=Lib.hid (Xg4.out.trans a (fun _=>fEq));clear a;go_wp2;go_ret;exact⟨rfl,((HW2.out.trans A2f.out (fun _=>fEq)).trans CHX.out (fun k hk=>.inr (HF1.out.2.1 k hk))).trans Xg5.out (fun _=>fEq)⟩
end Go.Proofs.YtngbdbpofifimaaGreat.Store
