/- Laws of the layers below. -/
import Derived.Test.YtngbdbpofifimaaGreatQk39
import Derived.SizedLaws
set_option maxHeartbeats 3200000
set_option maxRecDepth 100000
set_option linter.unusedVariables false
namespace Go.Proofs.YtngbdbpofifimaaGreat.Law15
open Go.RowKit Go.Sort Go.Proofs.YtngbdbpofifimaaGreat.ShaW Go.Proofs.YtngbdbpofifimaaGreat.Path Go.Proofs.YtngbdbpofifimaaGreat.Store Go.Proofs.YtngbdbpofifimaaGreat.Law9 Go.Proofs.YtngbdbpofifimaaGreat.Law14
section
variable {w0 w w' : World} {d v s room tn : Nat} {G : Nat→Prop} {σ σ' : AA Nd} {root r : Int} {L L' : AM} {M M' : Nmd}
theorem PF (h:Dct w0 w d v s G room σ root L M tn) (hl:M.length≤16) (hf:∀p∈M,CG p.1=true):Calls Tryz.prog 17 #[.pointer (some ⟨d,0,none⟩)] w fun e w'=>e=.returned (.bool true)∧Adds w w':=by
 have hnm:=fun w1 (a:Adds w w1)=>RB (h.adds a) (by omega)
 have hhd:=fun w1 (a:Adds w w1) x (hx:x∈Dn M)=>Fp (h.adds a) (Gt h hx)
 have HN:=(hIq hnm hhd)
 have HH:=(hIq h hl)
 have HF:=Lib.hid hf;obtain⟨ml,hml⟩:∃ml,ml=M.length:=⟨_,rfl⟩
 have HML:=Lib.hid hml;have hn17:ml≤16:=by omega
 clear hnm hhd h hl hml hf;go_enter Tryz.func17,Tryz.ntmps17;go_wp2_with fail;refine(HN.out.1 _ ((Ch.refl _ _).alloc _)).mono ?_;rintro e w2 ⟨q,rfl,hq,a2⟩;rw[←HML.out] at hq;obtain⟨qo,qc,rfl,hro,hlen⟩:=L9.own hq;have hl2:(Ep (ED M)).length=ml:=by rw[Ii,FY,HML.out]
 have H2:=(hIq (((Ch.refl (fun _=>False) w).alloc _).trans a2 (fun _=>fEq)) (aIq (a2.owns (Uo w []) (fun _ _ h=>h)) (aIq hro hl2)))
 clear hq hro hlen hl2 a2
 go_upto_region 2 with(first
  | fail
  | (at_builtin;refine Hy rfl _ _ rfl (.slice (some ⟨w.heap.size,0,none⟩) 1 1) 1 [[]] rfl H2.out.2.1 qo ml qc (Ep (ED M)) rfl H2.out.2.2.1 H2.out.2.2.2 (by omega) ?_;intro v' w3 own' grow' loc';have a3:Adds w w3:=H2.out.1.grown grow' (fun k hk=>.inr (by cases hk;exact Nat.le_refl _));obtain⟨no,nc,rfl⟩:=Ad own';have H3:=(hIq a3 own');clear own' grow' loc' a3))
 obtain⟨_,_,e1,hro3,_⟩:=L9.own H3.out.2;injection e1 with e1 _ _;rw[←e1] at hro3;obtain⟨n,hn⟩:∃n,n=1+ml:=⟨_,rfl⟩
 have hnr:K7 w3 no n M:=⟨hro3,by rw[Jt, ←HML.out];omega⟩
 have hnd:=HH.out.1.nd;have A3:=(hIq H3.out.1 (aIq hnr hnd))
 rw[←hn];have hn17':n≤17:=by omega
 clear hro3 e1 hnr hnd H3 H2 hn hn17;go_wp2_with fail;go_loopg [4,5,6,7] n (fun g s4 s5 s6 s7 wr=>∃(k m:Nat) (q:Option Addr) (qc:Nat) (R:List Int),s4=.slice q m qc∧s5=.int .i64 (k:Nat)∧k+g=n∧R=Ci root M ((Dn M).take k)∧m=R.length∧wr.ownsRow w3.heap.size 3 1 (.slice q m qc) m (Cf R)∧Adds w3 wr)
 case atStart=>exact⟨0,0,none,0,[],rfl,rfl,by omega,rfl,rfl,World.ownsRow_nil ..,Ch.refl _ _⟩
 obtain⟨k,m,q,qc,R,rfl,rfl,hk,hR,hm,hown,hA⟩:=hrel;have HS:=(hIq hown (aIq hA (aIq hR (aIq hm hk))))
 by_cases hkn:k<n
 · have h1:decide ((k:Int)<(n:Int))=true:=decide_eq_true (by omega)
   have h2:(k:Int)<(n:Int):=by omega
   obtain⟨g0,off,x,rfl,hx,hmem,hc⟩:=A3.out.2.1.cell hkn;have hcw:=hA.cell hc id;have hwk:wrap64 ((k:Int)+1)=(k:Int)+1:=by unfold wrap64;omega
   have hhd:=HN.out.2 wr (A3.out.1.trans hA (fun _=>fEq)) x hmem;obtain⟨S,hS⟩:∃S,S=BH x:=⟨_,rfl⟩
   rw[←hS] at hcw hhd
   have hft:Ci root M ((Dn M).take (k+1))=R++(if C9 root M x=0 then [] else [C9 root M x]):=by
    rw[List.take_add_one,hx,Option.toList_some,OG,hR]
   have HX:=(hIq hhd (aIq hmem hft))
   have hm17:m≤17:=by
    rw[hm,hR];exact Nat.le_trans (K6 ..) (by rw[List.length_take];omega)
   clear hk hown hA hx hmem hc hS hft hR hm hhd;go_wp2_with fail;refine HX.out.1.mono ?_;rintro e w4 ⟨hh,er,rfl,rfl,hd⟩;obtain⟨rfl,hrn⟩:=hd.C9 A3.out.2.2 HX.out.2.1;have HR:=Lib.hid hrn;clear hd hrn;by_cases h0:hh=0
   · have b0:(hh != 0)=false:=by simpa using h0
     have H0:=Lib.hid h0;clear h0;go_wp2;go_roundg (n-(k+1))
     case measure=>have:=HS.out.2.2.2.2;omega
     exact⟨k+1,m,q,qc,R,rfl,by first|(simp;done)|(simp[hwk];done),by omega,by rw[HX.out.2.2,if_pos (by rw[←HR.out];exact H0.out),List.append_nil],HS.out.2.2.2.1,HS.out.1,HS.out.2.1⟩
   have b0:(hh != 0)=true:=by simpa using h0
   have H0:=Lib.hid h0
   go_wp2_with (first
    | fail
    | (at_builtin;refine IA rfl _ _ rfl (.slice q m qc) m R rfl ((((Ch.refl (fun _=>False) wr).alloc (.cells (Cf [hh]).toArray 3)).owns HS.out.1 (fun _ _ h=>h)).base (fun _ _=>Nat.zero_le _)) (some ⟨wr.heap.size,0,none⟩) 1 1 [hh] rfl (Ru wr [hh]) rfl (by omega) ?_;intro v' w4 own' grow' loc';have a4:Adds w3 w4:=(HS.out.2.1.alloc _).grown grow' (fun k hk=>.inr (HS.out.1.lt k hk).1);have own2:=Kd (b:=w3.heap.size) own' (fun k hk=>(HS.out.1.lt k hk).1) (HS.out.2.1.alloc _).size loc';obtain⟨qo',qc',rfl⟩:=Ad own';have H4:=(hIq a4 own2);clear own' grow' loc' a4 own2))
   go_roundg (n-(k+1))
   case measure=>have:=HS.out.2.2.2.2;omega
   exact⟨k+1,m+1,qo',qc',R ++ [hh],rfl,by first|(simp;done)|(simp[hwk];done),by omega,by rw[HX.out.2.2,if_neg (by rw[←HR.out];exact H0.out),HR.out],by rw[List.length_append, ←HS.out.2.2.2.1];rfl,H4.out.2,H4.out.1⟩
 obtain rfl:k=n:=by omega
 have h1:decide ((k:Int)<(k:Int))=false:=decide_eq_false (by omega);have h2:¬(k:Int)<(k:Int):=by omega
 have hta:R=Ci root M (Dn M):=by rw[hR,List.take_of_length_le (by have:=A3.out.2.1.2;omega)]
 have hW:Adds w wr:=A3.out.1.trans hA (fun _=>fEq);have hd5:=HH.out.1.adds hW;have hrow:XP wr q m qc R:=⟨hown.base (fun _ _=>Nat.zero_le _),hm.symm⟩
 have hI:=(C8.own hrow.1).1;have hck0:=hd5.chk HH.out.2;have hsy:=hd5.Va HF.out;have hrd:=fun(k:Wk) (W:Wanting σ (Ci root M (Dn M)) k.todo.length k)=>hd5.VD HF.out W
 rw[←hta] at hck0 hsy hrd;obtain⟨F,hF⟩:=hd5.at;have hck:=fun w1 (a:Adds wr w1)=>Pk (hF.adds a) hd5.rts.good qc (hI.adds a) hck0
 have hre:=fun w1 (a:Adds wr w1)=>Mr (hF.adds a) hd5.rts.good qc (hI.adds a) hck0
 rw[←hm] at hck hre;have hso:=fun w1 (a:Adds wr w1)=>Qc (hd5.adds a)
 have hou:=fun w1 (a:Adds wr w1)=>ET (hd5.adds a)
 obtain⟨lv,hlv⟩:∃lv,lv=Store.live σ:=⟨_,rfl⟩
 rw[←hlv] at hou hrd;have H5:=(hIq hck (aIq hre (aIq hso (aIq hou (aIq hsy (aIq hrd hW))))))
 have hlv9:lv≤70000:=by rw[hlv];have:=NQ σ;have:=hd5.slots;omega
 clear hk hown hA hta hR hm hW hd5 hrow hI hck0 hsy hrd hF hck hre hso hou hlv;go_wp2_with fail;refine(H5.out.2.2.1 _ (Ch.refl _ _)).mono ?_;rintro e w6 ⟨rfl,rfl⟩;go_wp2_with fail;refine(H5.out.1 _ (Ch.refl _ _)).mono ?_;rintro e w6 ⟨v6,k6,rfl,hW6,own6,a6⟩;rw[H5.out.2.2.2.2.1.LK hW6] at own6;simp only[List.length_nil,fdL,List.flatMap_nil] at own6;obtain⟨q6,qc6,rfl⟩:=Ad own6;have H6:=Lib.hid a6;clear own6 hW6 a6;go_wp2_with fail;refine(H5.out.2.2.1 _ H6.out).mono ?_;rintro e w7 ⟨rfl,rfl⟩;go_wp2_with fail;refine(H5.out.2.1 _ H6.out).mono ?_;rintro e w7 ⟨v7,k7,rfl,hW7,own7,a7⟩;rw[H5.out.2.2.2.2.2.1 k7 hW7] at own7;obtain⟨q7,qc7,rfl⟩:=Ad own7;have H7:=Lib.hid (H6.out.trans a7 (fun _=>fEq));clear own7 hW7 a7;go_wp2_with fail;refine(H5.out.2.2.2.1 _ H7.out).mono ?_;rintro e w8 ⟨rfl,rfl⟩;go_wp2;go_ret;exact⟨by simp,H5.out.2.2.2.2.2.2.trans H7.out (fun _=>fEq)⟩
end
section
variable {w0 w w' : World} {d v s room tn : Nat} {G G' : Nat→Prop} {σ σ' : AA Nd} {root r : Int} {L L' : AM} {M M' : Nmd}
structure Wc (σ σ':AA Nd) (L L':AM) (room:Nat) (full:Bool) (cost:Nat):Prop where
 room:full=true→room<Store.live σ+cost
 same:full=true→Store.live σ'=Store.live σ∧(tree 256 L').dig=(tree 256 L).dig
 live:Store.live σ'≤Store.live σ+cost
structure Od (W:World) (d v s:Nat) (N:Nat→Prop) (room:Nat) (σ:AA Nd) (L:AM) (tn b10:Nat) (R:Array Value) (full:Bool) (cost:Nat) (wx:World):Prop where
 ex:∃σ' r L' M',Dct W wx d v s N room σ' r L' M' tn∧M'.length≤16∧(∀p∈M',CG p.1=true)∧Wc σ σ' L L' room full cost
 row:wx.heap[b10]?=some (.cells R 35 (0,0))
 cost:cost≤700000000000000
theorem RX {W:World} (room0:Int) {ao:Option Addr} {l:List Cb} (cap:Nat) (hl:I4 W ao l) (hla:∀a∈l,a.l.length*56≤140737488351232) (hll:l.length≤140737488351232) :
 Calls Tryz.prog 3 #[.int .i64 room0,.slice ao l.length cap] W fun e w'=>e=.returned (.bool true)∧Adds W w':=by
 obtain⟨len,hlen⟩:∃n,n=l.length:=⟨_,rfl⟩
 have HL:=(hIq hl (aIq hla (aIq hll hlen)))
 rw[←hlen];have hpk:=T8 room0 3000 (by decide) (by decide);have hpi:=Ua room0 (show 0<3000 by decide);obtain⟨pk,hp⟩:∃i:Nat,pick room0 3000=i:=⟨(pick room0 3000).toNat,by omega⟩
 rw[hp] at hpk hpi;obtain⟨room,hroom⟩:∃r:Nat,r=258+pk:=⟨_,rfl⟩
 have hwr:wrap64 (258+(pk:Int))=(room:Int):=by unfold wrap64;omega
 have HPK:=(hIq hpk (aIq hroom (show pk<3000 by omega)))
 clear hpk hpi hp hroom hl hla hll hlen;go_enter Tryz.func3,Tryz.ntmps3;go_wp2_with fail;refine(HPK.out.1 _).mono ?_;rintro e w1 ⟨rfl,rfl⟩;have hnw:=QI room W (by have:=HPK.out.2;omega) (by have:=HPK.out.2;omega);have HNW:=Lib.hid hnw;clear hnw;go_wp2_with fail;refine HNW.out.mono ?_;rintro e w1 ⟨d,v,s,rfl,hd⟩;have HD:=Lib.hid hd;clear hd HNW;go_wp2_with fail;refine(Tf w1).mono ?_;rintro e w2 ⟨rfl,a2⟩;have HD2:=Lib.hid (HD.out.adds a2);clear a2 HD;go_upto_region 5 with fail;go_wp2_with fail;go_loopg [7,8,9,10,11,12,13,14,15,16,17,18] (len+1) (fun g s7 s8 s9 s10 s11 s12 s13 s14 s15 s16 s17 s18 wr=>∃k σ root L M,s7=.int .i64 ((k:Nat):Int)∧k+g=len+1∧k≤len∧k≤30∧Xw W wr d v s room σ root L M (60000*k))
 case atStart=>exact⟨0,_,_,_,_,rfl,by omega,by omega,by omega,⟨HD2.out,by decide,fun p hp=>by cases hp⟩⟩
 obtain⟨k,σ,root,L,M,rfl,hk,hkl,hk30,hst⟩:=hrel;have HS:=(hIq hst (aIq hk (aIq hkl hk30)))
 clear hst hk hkl hk30
 iterate 2 go_step
 go_cut [44] (fun s44 wx=>s44=.bool (decide (k<len∧k<30))∧wx=wr)
 case first =>
  by_cases h1:k<len
  · have h1':(k:Int)<(len:Int):=by omega
    have h1'':decide ((k:Int)<(len:Int))=true:=decide_eq_true h1';by_cases h2:k<30
    · have h2':(k:Int)<30:=by omega
      have h2'':decide ((k:Int)<30)=true:=decide_eq_true h2';have H3:=Lib.hid (show decide (k<len∧k<30)=true from decide_eq_true ⟨h1,h2⟩);go_wp2;go_meet;exact⟨by rw[H3.out],rfl⟩
    have h2':¬(k:Int)<30:=by omega
    have h2'':decide ((k:Int)<30)=false:=decide_eq_false h2';have H3:=Lib.hid (show decide (k<len∧k<30)=false from decide_eq_false (fun h=>h2 h.2));go_wp2;go_meet;exact⟨by rw[H3.out],rfl⟩
  have h1':¬(k:Int)<(len:Int):=by omega
  have h1'':decide ((k:Int)<(len:Int))=false:=decide_eq_false h1';have H3:=Lib.hid (show decide (k<len∧k<30)=false from decide_eq_false (fun h=>h1 h.1));go_wp2;go_meet;exact⟨by rw[H3.out],rfl⟩
 obtain⟨rfl,rfl⟩:=hcut;by_cases hc:k<len∧k<30
 · rw[decide_eq_true hc]
   have hwk:wrap64 ((k:Int)+1)=(k:Int)+1:=by unfold wrap64;omega
   have hx1:(k:Int)<(len:Int):=by omega
   have hx1':k<len:=hc.1;obtain⟨x,hx⟩:∃x,l[k]?=some x:=⟨_,List.getElem?_eq_getElem (by have:=HL.out.2.2.2;omega)⟩
   obtain⟨g0,off,rfl,cur,ty,fr,c1,c2,c3⟩:=(HL.out.1.Af HS.out.1.dct.world (fun _=>fEq)).row k x hx;have hg:=HL.out.1.good x (List.mem_of_getElem? hx);obtain⟨C,hC⟩:∃C,C=x.cells:=⟨_,rfl⟩
   have hcs:C.size=6:=by rw[hC];rfl
   have hc1:∀v∈C.toList,v.oneCell'=true:=by rw[hC];exact(Uq (hg.Af HS.out.1.dct.world (fun _=>fEq))).2
   rw[←hC] at c2 c3;rw[hcs] at c2 c3;have HC:=(hIq c1 (aIq c2 (aIq c3 (aIq hcs (aIq hc1 (aIq hC (aIq hg (HL.out.2.1 x (List.mem_of_getElem? hx)))))))))
   clear hx c1 c2 c3 hg hC hcs hc1
   go_upto_region 9 with(first
    | fail
    | ((with_reducible show zOq (.load 32 _));refine AG rfl 32 _ rfl g0 (off+k*6) rfl HC.out.1 Tryz.underlying32 rfl JO (by have:=HC.out.2.1;omega) C HC.out.2.2.1 ?_)
    | ((with_reducible show zOq (.alloc 32));refine AH rfl 32 rfl (.agg Sc) P0 ?_;dsimp only[Value.cells];try simp only[World.size_alloc])
    | ((with_reducible show zOq (.store 32 _ _));refine AD rfl 32 _ _ rfl wc.heap.size 0 C rfl rfl (heap_alloc_new _ _) (by rw[JO,HC.out.2.2.2.1]) (by rw[HC.out.2.2.2.1];exact Nat.le_of_eq (Nat.zero_add _)) HC.out.2.2.2.2.1 C (by rw[AJ _ _ (by rw[Array.length_toList,Array.length_toList,HC.out.2.2.2.1];rfl)]) ?_))
   refine Bs (fun w2 hw2=>?_);have a2:Adds wc w2:=by rw[hw2];exact((Ch.refl _ _).alloc _).setRow (.inr (Nat.le_refl _)) _
   have r2:w2.heap[wc.heap.size]?=some (.cells C 32 (0,0)):=by rw[hw2];exact AF (heap_alloc_new wc (.cells Sc 32)) C
   obtain⟨b8,hb8⟩:∃b8,b8=wc.heap.size:=⟨_,rfl⟩
   rw[←hb8] at r2 ⊢;have hd2:=HS.out.1.dct.adds a2;have hoc:=ET hd2;have hrt:=I9 hd2 (x := []) (List.mem_cons_self ..);rw[show GH L M []=L from if_pos rfl] at hrt;obtain⟨lv,hlv⟩:∃lv,lv=Store.live σ:=⟨_,rfl⟩
   obtain⟨R,hR⟩:∃R,R=AK (tree 256 L).dig:=⟨_,rfl⟩
   rw[←hlv] at hoc;rw[←hR] at hrt;have HRs:=(hIq (show R.size=32 by rw[hR,AO];exact Tr.Fj _) (aIq (show ∀v∈R.toList,v.oneCell'=true by rw[hR];exact Ao _) hR))
   have H2:=(hIq hoc (aIq hrt (aIq r2 (aIq a2 (aIq hlv hb8)))))
   clear a2 r2 hw2 hb8 hoc hrt hlv hR hd2;go_wp2_with fail;refine H2.out.1.mono ?_;rintro e w3 ⟨rfl,rfl⟩;go_wp2_with fail;refine H2.out.2.1.mono ?_;rintro e w3 ⟨rfl,a3⟩;have A3:=Lib.hid a3;clear a3
   go_upto_region 11 with(first
    | fail
    | ((with_reducible show zOq (.alloc 35));refine AH rfl 35 rfl (.agg (AK (List.replicate 32 0))) Fy ?_;dsimp only[Value.cells];try simp only[World.size_alloc])
    | ((with_reducible show zOq (.store 35 _ _));refine AD rfl 35 _ _ rfl w3.heap.size 0 R rfl rfl (heap_alloc_new _ _) (by rw[Ce,HRs.out.1]) (by rw[HRs.out.1];exact Nat.le_of_eq (Nat.zero_add _)) HRs.out.2.1 R (by rw[AJ _ _ (by rw[Array.length_toList,Array.length_toList,HRs.out.1];rfl)]) ?_))
   refine Bs (fun w4 hw4=>?_);have a4:Adds w2 w4:=by rw[hw4];exact(A3.out.alloc _).setRow (.inr A3.out.size) _
   have r10:w4.heap[w3.heap.size]?=some (.cells R 35 (0,0)):=by rw[hw4];exact AF (heap_alloc_new w3 (.cells (AK (List.replicate 32 0)) 35)) R
   obtain⟨b10,hb10⟩:∃b,b=w3.heap.size:=⟨_,rfl⟩
   rw[←hb10] at r10 ⊢;have r8:=a4.row H2.out.2.2.1 id;have hsz:=H2.out.2.2.2.1.size;have hsz3:=A3.out.size
   have d4:=HS.out.1.dct.Vw (H2.out.2.2.2.1.trans a4 (fun _=>fEq)) (N:=fun k=>k=b8∨k=b10) (fun k hk=>by
    rcases hk with rfl|rfl
    · exact⟨Nat.le_of_eq H2.out.2.2.2.2.2.symm,Ag r8⟩
    exact⟨by omega,Ag r10⟩)
   have H4:=(hIq d4 (aIq r8 r10))
   obtain⟨kd,hkd⟩:∃kd,kd=x.kind:=⟨_,rfl⟩
   have c0:=AE (i:=0) (v:=.int .u8 kd) r8 (by rw[HC.out.2.2.2.2.2.1,hkd];rfl);clear a4 r10 hw4 hb10 r8 hsz hsz3 d4;have hgx:=HC.out.2.2.2.2.2.2.1;have HG:=(hIq hgx HC.out.2.2.2.2.2.2.2)
   obtain⟨kv,hkv⟩:∃kv,kv=x.kv:=⟨_,rfl⟩
   obtain⟨vv,hvv⟩:∃vv,vv=x.vv:=⟨_,rfl⟩
   obtain⟨ll,hll⟩:∃ll,ll=x.l.length:=⟨_,rfl⟩
   have c2:=AE (i:=2) (v:=kv) H4.out.2.1 (by rw[HC.out.2.2.2.2.2.1,hkv];rfl);have c3:=AE (i:=3) (v:=vv) H4.out.2.1 (by rw[HC.out.2.2.2.2.2.1,hvv];rfl);have c4:=AE (i:=4) (v:=.slice x.ao ll x.cap) H4.out.2.1 (by rw[HC.out.2.2.2.2.2.1,hll];rfl);have HE:=(hIq hkd (aIq hkv (aIq hvv hll)))
   clear hgx hkd hkv hvv hll;go_upto_block 2 with fail;go_cut [12,13,14,15] (fun s12 s13 s14 s15 wx=>∃full cost,s12=.bool full∧s13=.int .i64 ((cost:Nat):Int)∧Od W d v s (fun k=>False∨(k=b8∨k=b10)) room σ L (60000*(k+1)) b10 R full cost wx)
   case first =>
    have hW4:=H4.out.1.world;have hku:=HG.out.1.key.Af hW4 (fun _ _ h=>h);have hvu:=HG.out.1.val.Af hW4 (fun _ _ h=>h);have hvk:x.vb ≠ []→∀k,vv.ownBlock=some k→k<w4.heap.size:=fun h0 k hk=>Nat.lt_of_lt_of_le (HG.out.1.vblk h0 k (by rw[←HE.out.2.2.1];exact hk)) hW4.size
    rw[←HE.out.2.1] at hku;rw[←HE.out.2.2.1] at hvu;have htn:60000*k≤400000000:=by have:=HS.out.2.2.2;omega
    have HU:=(hIq hku (aIq hvu (aIq hvk htn)))
    clear hW4 hku hvu hvk htn;by_cases k0:kd=0
    · have hp:=Lp H4.out.1 HU.out.1 HU.out.2.1 HU.out.2.2.1 (by have:=HU.out.2.2.2;omega)
      unfold QS at hp;obtain⟨er,her⟩:∃er,er=CI σ x.kb x.vb:=⟨_,rfl⟩
      rw[←her] at hp;have HP:=(hIq hp her)
      subst k0;clear hp her;go_wp2_with fail;refine HP.out.1.mono ?_;rintro e w5 ⟨rfl,σ',r,hs,hno⟩
      have hM:Od W d v s (fun k=>False∨(k=b8∨k=b10)) room σ L (60000*(k+1)) b10 R (er == 9) 258 w5:=⟨⟨σ',r,_,M,by rw[Nat.mul_succ];exact hs.dct,HS.out.1.few,HS.out.1.fit,⟨fun h=>by
       have h9:=TH H4.out.1.rts (HP.out.2.symm.trans (by simpa using h));rw[H4.out.1.room] at h9;exact h9,fun h=>by
       have h9:er=9:=by simpa using h
       have h0:¬er=0:=by omega
       refine⟨by rw[hno h0],?_⟩;unfold Jd;rw[←HP.out.2,if_neg h0],hs.live⟩⟩,hs.but.row H4.out.2.2 (.inr (.inr rfl)),by omega⟩
      have HM:=Lib.hid hM;clear hM hs hno c0 c2 c3 c4;go_wp2;go_meet;exact⟨_,258,rfl,rfl,HM.out⟩
    by_cases k1:kd=1
    · have hp:=Im H4.out.1 HU.out.1 (by have:=HU.out.2.2.2;omega)
      unfold QT at hp;obtain⟨er,her⟩:∃er,er=Cc σ x.kb:=⟨_,rfl⟩
      obtain⟨eb,heb⟩:∃eb,eb=Iu σ L x.kb:=⟨_,rfl⟩
      rw[←her, ←heb] at hp;have HP:=(hIq hp her)
      subst k1;clear hp her heb k0;go_wp2_with fail;refine HP.out.1.mono ?_;rintro e w5 ⟨rfl,σ',r,hs,hno⟩
      have hM:Od W d v s (fun k=>False∨(k=b8∨k=b10)) room σ L (60000*(k+1)) b10 R (er == 9) 258 w5:=⟨⟨σ',r,_,M,by rw[Nat.mul_succ];exact hs.dct,HS.out.1.few,HS.out.1.fit,⟨fun h=>by
       have h9:=SO H4.out.1.rts (HP.out.2.symm.trans (by simpa using h));rw[H4.out.1.room] at h9;exact h9,fun h=>by
       have h9:er=9:=by simpa using h
       have h0:¬er=0:=by omega
       refine⟨by rw[hno h0],?_⟩;unfold MY;rw[←HP.out.2,if_neg h0],hs.live⟩⟩,hs.but.row H4.out.2.2 (.inr (.inr rfl)),by omega⟩
      have HM:=Lib.hid hM;clear hM hs hno c0 c2 c3 c4;go_wp2;go_meet;exact⟨_,258,rfl,rfl,HM.out⟩
    by_cases k2:kd=2
    · have hun:=Rn x.cap (HG.out.1.raws.Af H4.out.1.world (fun _=>fEq)) (by have:=HG.out.2;omega)
      have hbt:=fun w5 (a:Adds w4 w5)=>Ji (H4.out.1.adds a) x.cap HG.out.1.raws HG.out.2 (by have:=HU.out.2.2.2;omega)
      obtain⟨u,hu⟩:∃u,u=unl (F1 x.l) x.l.length:=⟨_,rfl⟩
      have hul:=SG (F1 x.l) x.l.length;rw[←hu] at hun hul;rw[←HE.out.2.2.2] at hun hbt hul;have hl56:=HG.out.2;rw[←HE.out.2.2.2] at hl56;have hwu:wrap64 (258*(u:Int))=258*(u:Int):=by unfold wrap64;omega
      have hub:258*u≤700000000000000:=by omega
      have HP:=(hIq hun (aIq hbt (aIq hu hub)))
      subst k2;clear hun hbt hu k0 k1 hub hul hl56;go_wp2_with fail;refine HP.out.1.mono ?_;rintro e w5 ⟨rfl,a5⟩;have A5:=(hIq a5 (a5.row H4.out.2.1 id))
      have c4':=AE (i:=4) (v:=.slice x.ao ll x.cap) A5.out.2 (by rw[HC.out.2.2.2.2.2.1,HE.out.2.2.2];rfl);clear a5 c0 c2 c3 c4;go_wp2_with fail;refine(HP.out.2.1 _ A5.out.1).mono ?_;rintro e w6 ⟨er,σ',r,L',rfl,hs,hb,hlv⟩
      have hM:Od W d v s (fun k=>False∨(k=b8∨k=b10)) room σ L (60000*(k+1)) b10 R (er == 9) (258*u) w6:=⟨⟨σ',r,_,M,by rw[Nat.mul_succ];exact hs.dct,HS.out.1.few,HS.out.1.fit,⟨fun h=>by
       have h9:=T3 H4.out.1.rts hb (by simpa using h);rw[H4.out.1.room, ←HP.out.2.2.1] at h9;exact h9,fun h=>by
       have h9:er=9:=by simpa using h
       have h0:¬er=0:=by omega
       refine⟨?_,?_⟩
       · rcases hlv with⟨_,e⟩|⟨e,_⟩
         · rw[e]
         exact absurd e h0
       rcases hb with⟨_,_,e⟩|⟨_,n,_,_,⟨_,e⟩|⟨e,_⟩⟩
       · rw[e]
       · rw[e]
       exact absurd e h0,by have:=Sh hlv;rw[←HP.out.2.2.1] at this;exact this⟩⟩,hs.but.row (A5.out.1.row H4.out.2.2 id) (.inr (.inr rfl)),HP.out.2.2.2⟩
      have HM:=Lib.hid hM;clear hM hs hb hlv c4';go_wp2;go_meet;exact⟨_,258*u,rfl,by first|(simp;done)|(simp[hwu];done),HM.out⟩
    have hdo:=XI H4.out.1 HG.out.1 HG.out.2 HU.out.2.2.2;rw[←HC.out.2.2.2.2.2.1] at hdo
    have hdm:DW x=0:=by
     unfold DW;have h3:=HG.out.1.kind.1;rw[←HE.out.1] at h3 ⊢;rw[if_neg (by omega),if_neg k2]
    have HP:=(hIq hdo hdm)
    clear hdo hdm
    go_wp2_with (first
     | fail
     | ((with_reducible show zOq (.load 32 _));refine AG rfl 32 _ rfl b8 0 rfl H4.out.2.1 Tryz.underlying32 rfl JO (by rw[HC.out.2.2.2.1];omega) C (by have:=HC.out.2.2.2.1;simp[←this]) ?_))
    refine HP.out.1.mono ?_;rintro e w5 ⟨rfl,σ',r,L',M',hs,hkp⟩;have hM:Od W d v s (fun k=>False∨(k=b8∨k=b10)) room σ L (60000*(k+1)) b10 R false 0 w5:=⟨⟨σ',r,L',M',by rw[Nat.mul_succ];exact hs.dct,hkp.few HS.out.1.few,hkp.fit HS.out.1.fit,⟨fun h=>(by cases h),fun h=>(by cases h),by have:=hs.live;rw[HP.out.2] at this;exact this⟩⟩,hs.but.row H4.out.2.2 (.inr (.inr rfl)),Nat.zero_le _⟩
    have HM:=Lib.hid hM;clear hM hs hkp c0 c2 c3 c4;go_wp2;go_meet;exact⟨false,0,rfl,rfl,HM.out⟩
   obtain⟨full,cost,rfl,rfl,hmid⟩:=hcut;obtain⟨σ',r,L',M',hd5,hfew,hfit,htold⟩:=hmid.ex;have hd6:Dct W wc d v s (fun _=>False) room σ' r L' M' (60000*(k+1)):=hd5.BZ (fun k hk=>hk.elim);have hr10:=hmid.row;have hcost:=hmid.cost;have hrt:=I9 hd6 (x := []) (List.mem_cons_self ..);rw[show GH L' M' []=L' from if_pos rfl] at hrt;obtain⟨R2,hR2⟩:∃R,R=AK (tree 256 L').dig:=⟨_,rfl⟩
   rw[←hR2] at hrt;obtain⟨lv',hlv'⟩:∃lv',lv'=Store.live σ':=⟨_,rfl⟩
   have hoc:=fun w9 (a:Adds wc w9)=>ET (hd6.adds a)
   have hct:=fun w9 (a:Adds wc w9)=>PF (hd6.adds a) hfew hfit
   rw[←hlv'] at hoc;have hlr:lv'≤room:=by rw[hlv'];exact hd6.MJ
   have hlc:=htold.live;have hfr:=htold.room;have hfs:=htold.same;rw[←hlv', ←H2.out.2.2.2.2.1] at hlc hfs;rw[←H2.out.2.2.2.2.1] at hfr;have hfq:full=true→R2=R:=fun h=>by rw[hR2,HRs.out.2.2,(hfs h).2]
   have HR2s:=(hIq (show R2.size=32 by rw[hR2,AO];exact Tr.Fj _) (aIq (show ∀v∈R2.toList,v.oneCell'=true by rw[hR2];exact Ao _) trivial))
   have hlb:lv≤100000:=by rw[H2.out.2.2.2.2.1];have:=HS.out.1.dct.MJ;have:=HPK.out.2;omega
   have H5:=(hIq hrt (aIq hoc (aIq hct (aIq hd6 (aIq hfew (aIq hfit (aIq hr10 (aIq hfr (aIq (fun h=>(hfs h).1) hfq)))))))))
   clear hmid hd5 hfew hfit htold hd6 hr10 hrt hR2 hlv' hoc hct hfr hfs hfq;go_wp2_with fail;refine H5.out.1.mono ?_;rintro e w6 ⟨rfl,a6⟩;have A6:=Lib.hid a6;clear a6
   go_upto_region 25 with(first
    | fail
    | ((with_reducible show zOq (.alloc 35));refine AH rfl 35 rfl (.agg (AK (List.replicate 32 0))) Fy ?_;dsimp only[Value.cells];try simp only[World.size_alloc])
    | ((with_reducible show zOq (.store 35 _ _));refine AD rfl 35 _ _ rfl w6.heap.size 0 R2 rfl rfl (heap_alloc_new _ _) (by rw[Ce,HR2s.out.1]) (by rw[HR2s.out.1];exact Nat.le_of_eq (Nat.zero_add _)) HR2s.out.2.1 R2 (by rw[AJ _ _ (by rw[Array.length_toList,Array.length_toList,HR2s.out.1];rfl)]) ?_))
   refine Bs (fun w7 hw7=>?_);have a7:Adds wc w7:=by rw[hw7];exact(A6.out.alloc _).setRow (.inr A6.out.size) _
   have r16:w7.heap[w6.heap.size]?=some (.cells R2 35 (0,0)):=by rw[hw7];exact AF (heap_alloc_new w6 (.cells (AK (List.replicate 32 0)) 35)) R2
   obtain⟨b16,hb16⟩:∃b,b=w6.heap.size:=⟨_,rfl⟩
   rw[←hb16] at r16 ⊢;have H7:=(hIq a7 (aIq r16 (a7.row H5.out.2.2.2.2.2.2.1 id)))
   clear a7 r16 hw7 hb16;go_wp2_with fail;refine(H5.out.2.1 _ H7.out.1).mono ?_;rintro e w8 ⟨rfl,rfl⟩;have g1:wrap64 ((lv:Int)+(cost:Int))=(lv:Int)+(cost:Int):=by unfold wrap64;omega
   have g2:decide ((lv:Int)+(cost:Int)<(lv':Int))=false:=decide_eq_false (by omega);have g3:decide ((room:Int)<(lv':Int))=false:=decide_eq_false (by omega);have HCT:=Lib.hid (H5.out.2.2.1 _ H7.out.1);cases full with
   | true =>
    have hrf:=H5.out.2.2.2.2.2.2.2.1 rfl;have hl2:=H5.out.2.2.2.2.2.2.2.2.1 rfl;have hq2:=H5.out.2.2.2.2.2.2.2.2.2 rfl;subst hl2;have g4:decide ((lv':Int)+(cost:Int)≤(room:Int))=false:=decide_eq_false (by omega);have g5:((lv':Int) != (lv':Int))=false:=by simp
    have hneq:=fun w0=>Oc 35 Tryz.underlying35 (tree 256 L).dig (tree 256 L).dig (Tr.Fj _) (Tr.Fj _) w0
    simp only[←HRs.out.2.2,decide_true,Bool.not_true] at hneq;have HQ:=(hIq H7.out.2.1 H7.out.2.2)
    rw[hq2] at HQ;clear hrf hq2
    go_wp2_with (first
     | fail
     | ((with_reducible show zOq (.load 35 _));refine Bo (by first|rfl|(simp[Region.wanted];done)) 35 _ rfl b16 0 rfl HQ.out.1 Tryz.underlying35 rfl Ce (by rw[HRs.out.1];omega) R (by have:=HRs.out.1;simp[←this]) ?_)
     | ((with_reducible show zOq (.load 35 _));refine Bo (by first|rfl|(simp[Region.wanted];done)) 35 _ rfl b10 0 rfl HQ.out.2 Tryz.underlying35 rfl Ce (by rw[HRs.out.1];omega) R (by have:=HRs.out.1;simp[←this]) ?_))
    refine HCT.out.mono ?_;rintro e w9 ⟨rfl,a9⟩;have A9:=Lib.hid (H7.out.1.trans a9 (fun _=>fEq));clear a9;go_wp2;go_roundg (gk-1)
    case measure=>have:=HS.out.2;omega
    exact⟨k+1,σ',r,L',M',by first|(simp;done)|(simp[hwk];done),by have:=HS.out.2;omega,by omega,by omega,⟨H5.out.2.2.2.1.adds A9.out,H5.out.2.2.2.2.1,H5.out.2.2.2.2.2.1⟩⟩
   | false =>
    go_wp2_with fail;refine HCT.out.mono ?_;rintro e w9 ⟨rfl,a9⟩;have A9:=Lib.hid (H7.out.1.trans a9 (fun _=>fEq));clear a9;go_wp2;go_roundg (gk-1)
    case measure=>have:=HS.out.2;omega
    exact⟨k+1,σ',r,L',M',by first|(simp;done)|(simp[hwk];done),by have:=HS.out.2;omega,by omega,by omega,⟨H5.out.2.2.2.1.adds A9.out,H5.out.2.2.2.2.1,H5.out.2.2.2.2.2.1⟩⟩
 rw[decide_eq_false hc];go_wp2;go_ret;exact⟨rfl,HS.out.1.dct.world⟩
end
end Go.Proofs.YtngbdbpofifimaaGreat.Law15
namespace Go.Proofs.YtngbdbpofifimaaGreat.Law15
open Go.RowKit Go.Proofs.YtngbdbpofifimaaGreat.ShaW Go.Proofs.YtngbdbpofifimaaGreat.Path Go.Proofs.YtngbdbpofifimaaGreat.Store Go.Proofs.YtngbdbpofifimaaGreat.Law9 Go.Deep Go.ChangeShapes Go.WideShapes Go.ChangeAt
theorem Gg {H:Type} {P:Program} {e:TypeId}:∀ {l:List (DataW H)} {d:DataW H},d∈l→∀n∈d.weights P e,n∈DataW.weightsAll P e l
 | [],d,h=>by cases h
 | d0::l,d,h=>fun n hn=>by
  simp only[DataW.weightsAll,List.mem_append];rcases List.mem_cons.1 h with rfl|h
  · exact .inl hn
  exact .inr (Gg h n hn)
section
variable {H : Type} {enc : TypeId×Value→H} {W : World} {base : Nat}
theorem Lz {α:Type} [Inhabited α] {m:Nat} (hm0:0<m) {good:α→DataW H→Prop} {cells:α→Array Value} {st T:TypeId} (hst:Tryz.prog.underlying st=some (.slice T)) (hct:Tryz.prog.cellsOf T=m)
 (read:∀ {n:Nat} {cs:List Value} {y:DataW H×List MemPlace},DataW.trod enc Tryz.prog W base (fun _=>true) true n T cs=some y→∃x:α,good x y.1∧cs=(cells x).toList)
 {n:Nat} {cs:List Value} {y:DataW H×List MemPlace} (h:DataW.trod enc Tryz.prog W base (fun _=>true) true n st cs=some y) :
 ∃(ao:Option Addr) (l:List α) (cap:Nat),cs = [.slice ao l.length cap]∧(∀x∈l,∃d,good x d∧∀k∈d.weights Tryz.prog T,k∈y.1.weights Tryz.prog st)∧EE m cells W ao l∧(l = []∨∃k∈y.1.weights Tryz.prog st,l.length*Tryz.prog.bytesOf T≤k):=by
 rcases open_slice hst h with⟨h0,_⟩|⟨a,len,cap,mm,n,D,Pl,hcs,hb,hl,hc,hmm,hx,hi⟩
 · exact⟨none,[],0,h0,fun x hx=>(by cases hx),fun i x hi=>(by simp at hi),.inl rfl⟩
 have hw:y.1.weights Tryz.prog st=(len+(mm-len))*Tryz.prog.bytesOf T::(DataW.weightsAll Tryz.prog T ((List.range len).map D)++DataW.weightsAll Tryz.prog T ((List.range (mm-len)).map fun j=>D (len+j))):=by
  rw[hx];simp[DataW.weights,hst]
 have one:∀i,i<len→∃x:α,good x (D i)∧∃g off,a=⟨g,off,none⟩∧Bx W g (off+i*m) (cells x):=fun i hil=>by
  obtain⟨cs',h1,h2⟩:=hi i (by rw[hmm];simp only[if_true];exact Nat.lt_of_lt_of_le hil hl);rw[hct] at h1;obtain⟨x,hg,rfl⟩:=read h2;obtain⟨_,hlen,h3⟩:=World.cells?_some h1;obtain⟨g,off,spot⟩:=a;cases spot with
  | none =>
   refine⟨x,hg,g,off,rfl,?_⟩;have:=Bx.IC (w:=W) (g:=g) (o:=off+i*m) (m:=m) (cs:=(cells x).toList) hm0 hlen (fun j hj=>by have:=h3 j hj;simpa only[add_plain] using this);exact this
  | some s =>
   exfalso;obtain⟨cs',h1,h2⟩:=hi 0 (by rw[hmm];simp only[if_true];exact Nat.lt_of_lt_of_le (Nat.lt_of_le_of_lt (Nat.zero_le _) hil) hl);rw[hct] at h1;obtain⟨x,hg,rfl⟩:=read h2;obtain⟨_,hlen,h3⟩:=World.cells?_some h1;have k0:=h3 0 hm0;rw[JF _ _ (by simp[Addr.add])] at k0;have hp:0<(cells x).toList.length:=by rw[hlen];exact hm0
   rw[List.getElem?_eq_getElem hp] at k0;cases k0
 obtain⟨B,hB⟩:∃B:Nat→α,∀i,i<len→good (B i) (D i)∧∃g off,a=⟨g,off,none⟩∧Bx W g (off+i*m) (cells (B i)):=by
  refine⟨fun i=>if hi:i<len then Classical.choose (one i hi) else default,fun i hi=>?_⟩;simp only[dif_pos hi];exact Classical.choose_spec (one i hi)
 refine⟨some a,(List.range len).map B,cap,by rw[hcs];simp,fun x hx=>?_,fun i x hi=>?_,.inr ⟨_,by rw[hw];exact List.mem_cons_self ..,?_⟩⟩
 · obtain⟨j,hj,rfl⟩:=List.mem_map.1 hx
   refine⟨D j,(hB j (List.mem_range.1 hj)).1,fun k hk=>?_⟩;rw[hw];exact List.mem_cons_of_mem _ (List.mem_append.2 (.inl (Gg (List.mem_map_of_mem hj) k hk)))
 · have hil:i<len:=by
    have:=(List.getElem?_eq_some_iff.1 hi).1;simpa using this
   have:x=B i:=by simp[hil] at hi;exact hi.symm
   subst this;obtain⟨_,g,off,h1,h2⟩:=hB i hil;exact⟨g,off,by rw[h1],h2⟩
 rw[List.length_map,List.length_range];exact Nat.mul_le_mul_right _ (Nat.le_add_right _ _)
theorem Rr:Tryz.prog.bytesOf 131=56:=by kernel_rfl
def Cb.Fits (x:Cb) (d:DataW H):Prop:=(∀k∈d.weights Tryz.prog 32,k≤reachBytes)→x.l.length*56≤140737488351232
theorem N4 {n:Nat} {cs:List Value} {y:DataW H×List MemPlace} (h:DataW.trod enc Tryz.prog W base (fun _=>true) true n 32 cs=some y):∃x:Cb,(x.Good W∧x.Fits y.1)∧cs=x.cells.toList:=by
 obtain⟨x,hg,hx⟩:=Pw h;refine⟨x,⟨hg,fun hw=>?_⟩,hx⟩;obtain⟨xs,m,rfl,rfl,hl,hxl,hf⟩:=DataW.trod_struct Tryz.underlying32 h;rw[Gd] at hl;have hx6:xs.length=6:=hxl;have f4:=hf 4 ⟨ "L",30,4,false, "", "",72⟩ rfl;rw[List.getElem?_eq_getElem (l:=xs) (i:=4) (by omega)] at f4;simp only[Kf] at f4;obtain⟨ao,l,cap,e4,_,_,hk⟩:=Lz (good:=fun x _=>x.Good W) (m:=3) (by decide) (cells:=BN.cells) Tryz.underlying30 JK (fun h=>Nk h) f4
 have he:l.length=x.l.length:=by
  rw[hx] at e4;simp[Cb.cells] at e4;exact e4.2.1.symm
 rw[←he];rcases hk with rfl|⟨k,hk,hle⟩
 · exact Nat.zero_le _
 rw[Rr] at hle
 have h1:=hw k (by
  simp only[DataW.weights,Tryz.underlying32];exact DataW.weights_mem_each (j:=4) (t:=30) (d:=(xs[4]'(by omega)).1) rfl (by rw[List.getElem?_map,List.getElem?_eq_getElem (by omega)];rfl) k hk)
 have h2:reachBytes=140737488351232:=by decide
 omega
theorem OD:Tryz.prog.bytesOf 32=104:=by kernel_rfl
def Lo (W:World) (v:Value):Prop:=∃ao l cap,v=.slice ao (List.length l) cap∧I4 W ao l∧(∀a∈l,a.l.length*56≤140737488351232)∧l.length≤140737488351232
theorem PJ {v:Value} {d:DataW H} {p:List MemPlace} (hv:Value.okWide Tryz.prog W .any base 22 v)
 (h:DataW.Trod enc Tryz.prog W 0 (fun _=>true) true 22 v d p) (hw:∀k∈d.weights Tryz.prog 22,k≤reachBytes):Lo W v:=by
 obtain⟨m,hm⟩:=h;obtain⟨ao,l,cap,e,h1,h2,h3⟩:=Lz (good:=fun x d=>x.Good W∧x.Fits d) (m:=6) (by decide) (cells:=Cb.cells) Tryz.underlying22 Gd (fun h=>N4 h) hm;obtain⟨ao',len,cap',rfl⟩:=okWide_slice Tryz.underlying22 hv;simp only[Value.cells,List.cons.injEq,Value.slice.injEq,and_true] at e;obtain⟨rfl,rfl,rfl⟩:=e;refine⟨_,l,_,rfl,⟨fun x hx=>?_,h2⟩,fun x hx=>?_,?_⟩
 · obtain⟨d',hd,_⟩:=h1 x hx
   exact hd.1
 · obtain⟨d',hd,hk⟩:=h1 x hx
   exact hd.2 fun k hk'=>hw k (hk k hk')
 rcases h3 with rfl|⟨k,hk,hle⟩
 · exact Nat.zero_le _
 have:=hw k hk;rw[OD] at hle;have h2:reachBytes=140737488351232:=by decide
 omega
end
end Go.Proofs.YtngbdbpofifimaaGreat.Law15
