/- Laws of the layers below. -/
import Derived.Test.YtooijgcildbnlaaGreatQj34
set_option maxHeartbeats 3200000
set_option maxRecDepth 100000
set_option linter.unusedVariables false
namespace Go.Proofs.YtooijgcildbnlaaGreat.Law15
open Go.RowKit Go.Sort Go.Proofs.YtooijgcildbnlaaGreat.ShaW Go.Proofs.YtooijgcildbnlaaGreat.Path Go.Proofs.YtooijgcildbnlaaGreat.Store Go.Proofs.YtooijgcildbnlaaGreat.BE Go.Proofs.YtooijgcildbnlaaGreat.Law14
def DK (w:World) (v:Value) (l:List (List UInt8)):Prop:=∃ao cap,v=.slice ao l.length cap∧Dl 32 AM w ao l∧∀s∈l,s.length=32
theorem DK.adds {w w':World} {v:Value} {l:List (List UInt8)} (h:DK w v l) (a:Adds w w'):DK w' v l:=by
 obtain⟨ao,cap,e,h1,h2⟩:=h;exact⟨ao,cap,e,h1.An a (fun _=>fEq),h2⟩
theorem IL.at {w:World} {b:Nat} {v:Value} {l:List (List UInt8)} (h:IL w b v l) (hl:∀s∈l,s.length=32):DK w v l:=by
 obtain⟨ao,cap,e,h1,_⟩:=Cf.row h (fun x hx=>by rw[AN];exact hl x hx) (by decide);exact⟨ao,cap,e,h1,hl⟩
theorem Eb (k:List UInt8):∀(t:Tr) (d:Nat),∀s∈t.sides k d,s.length=32
 | .nil,_,s,h=>by cases h
 | .leaf _ _,_,s,h=>by cases h
 | .node l r,d,s,h=>by
  unfold Tr.sides at h;split at h
  · rcases List.mem_cons.1 h with rfl|h
    · exact Tr.Ee _
    exact Eb k l (d+1) s h
  rcases List.mem_cons.1 h with rfl|h
  · exact Tr.Ee _
  exact Eb k r (d+1) s h
theorem ME (k:List UInt8) (l:List (List UInt8)) (d:Nat) (h:List UInt8) (hh:h.length=32):(upD k l d h).length=32:=by
 cases l with
 | nil=>exact hh
 | cons s l =>
  show(if AS k d=0 then Tag.Cn _ s else Tag.Cn s _).length=32
  split<;>exact Tag.AV _ _
def EI (key:List UInt8) (l:List (List UInt8)) (h:List UInt8) (k:Nat):List UInt8:=upD key (l.drop k) k h
theorem NI (key:List UInt8) {l:List (List UInt8)} {h:List UInt8} {k:Nat} {s:List UInt8} (hs:l[k]?=some s):EI key l h k=if AS key k=0 then Tag.Cn (EI key l h (k+1)) s else Tag.Cn s (EI key l h (k+1)):=by
 obtain⟨hk,rfl⟩:=List.getElem?_eq_some_iff.1 hs;unfold EI;rw[List.drop_eq_getElem_cons hk];rfl
section
variable {w w' : World} {key : List UInt8} {v : Value} {l : List (List UInt8)} {t : Tr}
theorem N8 (v:Value) (N:Array Value) (h:N.size=129):(Aj v N).extract 1 (1+129)=N:=by
 apply Array.ext';rw[Array.toList_extract,List.extract_eq_take_drop];simp only[Aj,Array.toList_append]
 show((v::N.toList).drop 1).take 129=N.toList
 rw[List.drop_succ_cons,List.drop_zero,List.take_of_length_le (by rw[Array.length_toList,h];omega)]
theorem GR (v:Value) (N:Array Value) (x:Value) (h:N[0]?=some x):(Aj v N)[1]?=some x:=by
 rw[←Array.getElem?_toList] at h ⊢;simp only[Aj,Array.toList_append]
 show([v]++N.toList)[1]?=some x
 rw[List.getElem?_append_right (by simp)];exact h
theorem K7 (k:Nat) (a b c d:List UInt8):(Bx k a b c d)[0]?=some (.int .u8 (k:Nat)):=rfl
theorem Ho {t:Tr} (ht:t.isNode=false):∃kd:Int,(EC t)[0]?=some (.int .u8 kd)∧kd≠2∧(kd=1↔t≠.nil):=by
 cases t with
 | nil=>exact⟨((0:Nat):Int),K7 0 _ _ _ _,by decide,Iff.intro (fun h=>absurd h (by decide)) (fun h=>absurd rfl h)⟩
 | leaf k v=>exact⟨((1:Nat):Int),K7 1 _ _ _ _,by decide,Iff.intro (fun _=>Tr.noConfusion) (fun _=>rfl)⟩
 | node=>cases ht
theorem Wx (hk:key.length=32) (hv:DK w v l) (hl:l.length≤256) (ht:t.isNode=false) (hte:∀e∈t.ents,e.1.length=32) :
 Calls Tryz.prog 140 #[.agg (AM key),.agg (Aj v (EC t))] w fun e w'=>e=.returned (.tuple #[.agg (AM (upD key l 0 t.dig)),.int .i64 0])∧Adds w w':=by
 obtain⟨ao,cap,rfl,hrow,hls⟩:=hv;obtain⟨kd,hkd,hkn,_⟩:=Ho ht;have hdg:=fun w=>OZ ht hte w
 obtain⟨hNs,hN1⟩:=DT ht hte;have hin:=fun(a b:List UInt8) (ha:a.length=32) (hb:b.length=32) (w:World)=>Tag.Ii a b ha hb w
 have hbt:=fun(d:Int) (w:World)=>Ft key hk d (w:=w)
 obtain⟨N,hN⟩:∃N,N=EC t:=⟨_,rfl⟩
 rw[←hN] at hkd hdg hNs hN1;obtain⟨n,hn⟩:∃n,n=l.length:=⟨_,rfl⟩
 have hn256:n≤256:=by omega
 obtain⟨V,hV⟩:∃V,V=Value.slice ao n cap:=⟨_,rfl⟩
 rw[←hN, ←hn, ←hV];obtain⟨Q,hQ⟩:∃Q,Q=Aj V N:=⟨_,rfl⟩
 have hQs:Q.size=130:=by rw[hQ];exact Ae hNs
 have hQ0:Q[0]?=some (.slice ao n cap):=by rw[hQ, ←hV];exact Ei _ _
 have hQ1:Q[1]?=some (.int .u8 kd):=by rw[hQ];exact GR _ _ _ hkd
 have hQN:Q.extract 1 (1+129)=N:=by rw[hQ];exact N8 _ _ hNs
 rw[←hQ];obtain⟨K,hK⟩:∃K,K=AM key:=⟨_,rfl⟩
 have hKs:K.size=32:=by rw[hK,AN,hk]
 rw[←hK] at hbt ⊢;obtain⟨Z,hZ⟩:∃Z,Z=AM (List.replicate 32 0):=⟨_,rfl⟩
 have hzh:=Hs;have hZs:Z.size=32:=by rw[hZ];rfl
 rw[←hZ] at hzh;obtain⟨h0,hh0⟩:∃h0,h0=t.dig:=⟨_,rfl⟩
 have hh1:h0.length=32:=by rw[hh0];exact Tr.Ee _
 rw[←hh0] at hdg ⊢;have HQ:=(hIq hQs (aIq hQ0 (aIq hQ1 hQN)))
 have HL:=(hIq hrow (aIq hls hn))
 have HC:=(hIq hdg (aIq hin hbt))
 have HZ:=(hIq hzh hZs)
 have HK:=Lib.hid hKs;have HN:=(hIq hNs (aIq hN1 (aIq hh1 Bu.2.1)))
 clear hQs hQ0 hQ1 hQN hrow hls hn hdg hin hbt hzh hZs hZ hKs hK hNs hN1 hh1 hQ hV hN hkd hh0 hl ht hte hk;go_enter Tryz.func140,Tryz.ntmps140
 go_upto_region 1 with(first
  | fail
  | ((with_reducible show zOq (.alloc 85));refine AI rfl 85 rfl (.agg Z) HZ.out.1 ?_;dsimp only[Value.cells];try simp only[World.size_alloc]))
 refine BQ (fun w1 hw1=>?_);have a1:Adds w w1:=by rw[hw1];exact(((Ch.refl _ _).alloc _).alloc _).alloc _
 obtain⟨B0,hB0⟩:∃B0,B0=w.heap.size:=⟨_,rfl⟩
 have r0:w1.heap[B0]?=some (.cells K 24 (0,0)):=by rw[hw1,hB0];exact AJ (AJ (heap_alloc_new _ _) _) _
 have r1:w1.heap[B0+1]?=some (.cells Q 117 (0,0)):=by
  rw[hw1,hB0];refine AJ ?_ _;have:=heap_alloc_new (w.alloc (.cells K 24)) (.cells Q 117);simpa using this
 have r2:w1.heap[B0+1+1]?=some (.cells Z 85 (0,0)):=by
  rw[hw1,hB0,Av];simp
 have hsz:w1.heap.size=B0+3:=by rw[hw1,hB0];simp
 rw[←hB0];have c0:=AH r1 HQ.out.2.1;have H1:=(hIq a1 (aIq r0 (aIq r1 (aIq r2 (aIq hsz hB0)))))
 clear a1 r0 r1 r2 hsz hw1 hB0
 go_wp2_with (first
  | fail
  | ((with_reducible show zOq (.load 115 _));refine AF rfl 115 _ rfl (B0+1) 1 rfl H1.out.2.2.1 Tryz.underlying115 rfl HN.out.2.2.2 (by rw[HQ.out.1];omega) N HQ.out.2.2.2 ?_))
 refine(HC.out.1 w1).mono ?_;rintro e w2 ⟨rfl,a2⟩;obtain⟨O,hO⟩:∃O,O=AM h0:=⟨_,rfl⟩
 rw[←hO];have hOs:O.size=32:=by rw[hO,AN,HN.out.2.2.1]
 have HO:=(hIq hOs (aIq (show ∀v∈O.toList,v.oneCell'=true by rw[hO];exact Ah _) hO))
 have H2:=(hIq (H1.out.1.trans a2 (fun _=>fEq)) (aIq (a2.row H1.out.2.1 id) (aIq (a2.row H1.out.2.2.1 id) (aIq (a2.row H1.out.2.2.2.1 id) a2.size))))
 clear a2 hO hOs c0
 go_upto_region 4 with(first
  | fail
  | ((with_reducible show zOq (.alloc 85));refine AI rfl 85 rfl (.agg Z) HZ.out.1 ?_;dsimp only[Value.cells];try simp only[World.size_alloc])
  | ((with_reducible show zOq (.store 85 _ _));refine AE rfl 85 _ _ rfl w2.heap.size 0 O rfl rfl (heap_alloc_new _ _) (by rw[BI,HO.out.1]) (by rw[HO.out.1,HZ.out.2];omega) HO.out.2.1 O (by rw[AK _ _ (by rw[Array.length_toList,Array.length_toList,HO.out.1,HZ.out.2])]) ?_))
 refine BQ (fun w3 hw3=>?_);have a3:Adds w2 w3:=by rw[hw3];exact((Ch.refl _ _).alloc _).setRow (.inr (Nat.le_refl _)) _
 obtain⟨B6,hB6⟩:∃B6,B6=w2.heap.size:=⟨_,rfl⟩
 have r6:w3.heap[B6]?=some (.cells O 85 (0,0)):=by rw[hw3,hB6];exact AG (heap_alloc_new w2 (.cells Z 85)) O
 rw[←hB6];have hlo:B0+3≤B6∧w.heap.size≤B6:=by have:=H2.out.2.2.2.2;have:=H1.out.2.2.2.2;omega
 have c0:=AH (a3.row H2.out.2.2.1 id) HQ.out.2.1;have c1:=AH (a3.row H2.out.2.2.1 id) HQ.out.2.2.1;have H3:=(hIq (H2.out.1.trans a3 (fun _=>fEq)) (aIq (a3.row H2.out.2.1 id) (aIq (a3.row H2.out.2.2.1 id) (aIq (a3.row H2.out.2.2.2.1 id) (aIq r6 hlo)))))
 clear a3 r6 hw3 hB6 hlo;have hkn':(kd == 2)=false:=by simpa using hkn
 have hwn:wrap64 ((n:Int)-1)=(n:Int)-1:=by unfold wrap64;omega
 go_wp2_with fail;clear c0 c1;go_loopg [8] n (fun g s8 wr=>∃k:Nat,k≤n∧g=k∧s8=.int .i64 ((k:Int)-1)∧wr.heap[B6]?=some (.cells (AM (EI key l h0 k)) 85 (0,0))∧Ch (fun j=>j=B6) w3 wr)
 case atStart =>
  refine⟨n,Nat.le_refl _,rfl,by first|rfl|(simp[hwn];done),?_,Ch.refl _ _⟩;have h1:EI key l h0 n=h0:=by unfold EI;rw[HL.out.2.2,List.drop_length];rfl
  rw[h1, ←HO.out.2.2];exact H3.out.2.2.2.2.1
 obtain⟨k,hk,hg,rfl,hr,hch⟩:=hrel;cases k with
 | zero =>
  have e1:((0:Nat):Int)-1 = -1:=rfl;rw[e1];have hAw:Adds w wr:=H3.out.1.trans hch (fun j hj=>.inr (by rw[hj];exact H3.out.2.2.2.2.2.2));have rz:=hch.row H3.out.2.2.2.1 (fun e=>by have h5:B0+1+1=B6:=e;have:=H3.out.2.2.2.2.2;omega);have hu0:EI key l h0 0=upD key l 0 h0:=by unfold EI;rw[List.drop_zero]
  rw[hu0] at hr;obtain⟨R,hR⟩:∃R,R=AM (upD key l 0 h0):=⟨_,rfl⟩
  rw[←hR] at hr;have hRs:R.size=32:=by rw[hR,AN,ME key l 0 h0 HN.out.2.2.1]
  have HR:=(hIq hRs (aIq (show ∀v∈R.toList,v.oneCell'=true by rw[hR];exact Ah _) (aIq hr (aIq rz (aIq hAw hR)))))
  clear hk hg hr hch hu0 hR hRs hAw rz
  go_wp2_with (first
   | fail
   | ((with_reducible show zOq (.load 85 _));refine AF rfl 85 _ rfl B6 0 rfl HR.out.2.2.1 Tryz.underlying85 rfl BI (by rw[HR.out.1];omega) R (by have:=HR.out.1;simp[←this]) ?_)
   | ((with_reducible show zOq (.store 85 _ _));refine AE rfl 85 _ _ rfl (B0+1+1) 0 R rfl rfl HR.out.2.2.2.1 (by rw[BI,HR.out.1]) (by rw[HR.out.1,HZ.out.2];omega) HR.out.2.1 R (by rw[AK _ _ (by rw[Array.length_toList,Array.length_toList,HR.out.1,HZ.out.2])]) ?_))
  exact Ak (p:=4) (u:=5) rfl rfl (AG HR.out.2.2.2.1 _) Tryz.underlying85 rfl (by rw[BI,HR.out.1]) rfl ⟨by rw[←HR.out.2.2.2.2.2];rfl,HR.out.2.2.2.2.1.setRow (.inr (by have:=H1.out.2.2.2.2.2;omega)) _⟩
 | succ k =>
  have e1:((k+1:Nat):Int)-1=(k:Int):=by omega
  rw[e1];have hk':k<n:=by omega
  have h1:decide ((0:Int)≤(k:Int))=true:=decide_eq_true (by omega);have h2:(0:Int)≤(k:Int):=by omega
  have hwk:wrap64 ((k:Int)-1)=(k:Int)-1:=by unfold wrap64;omega
  obtain⟨sx,hsx⟩:∃sx,l[k]?=some sx:=⟨_,List.getElem?_eq_getElem (by have:=HL.out.2.2;omega)⟩
  have hsl:=HL.out.2.1 sx (List.mem_of_getElem? hsx);obtain⟨g0,off,rfl,cur,ty,fr,p1,p2,p3⟩:=HL.out.1 k sx hsx;have hst:=NI key (h:=h0) hsx;have hAw:Adds w wr:=H3.out.1.trans hch (fun j hj=>.inr (by rw[hj];exact H3.out.2.2.2.2.2.2));have rk:=hch.row H3.out.2.1 (fun e=>by have h5:B0=B6:=e;have:=H3.out.2.2.2.2.2;omega);have rq:=hch.row H3.out.2.2.1 (fun e=>by have h5:B0+1=B6:=e;have:=H3.out.2.2.2.2.2;omega);obtain⟨up,hup⟩:∃up,up=EI key l h0 (k+1):=⟨_,rfl⟩
  have hul:up.length=32:=by rw[hup];exact ME _ _ _ _ HN.out.2.2.1
  rw[←hup] at hst hr;obtain⟨bt,hbt⟩:∃bt,bt=AS key k:=⟨_,rfl⟩
  have hbc:Calls Tryz.prog 191 #[.agg K,.int .i64 (k:Int)] wr fun e w'=>e=.returned (.int .i64 (bt:Nat))∧Adds wr w':=by
   have h5:=HC.out.2.2 (k:Int) wr;rw[Ct (show k<256 by omega), ←hbt] at h5;exact h5
  obtain⟨X,hX⟩:∃X,X=AM sx:=⟨_,rfl⟩
  obtain⟨Y,hY⟩:∃Y,Y=AM up:=⟨_,rfl⟩
  have hXs:X.size=32:=by rw[hX,AN,hsl]
  have hYs:Y.size=32:=by rw[hY,AN,hul]
  rw[←hX,hXs] at p2 p3;rw[←hY] at hr;rw[←hbt] at hst;have HX:=(hIq (hAw.row p1 id) (aIq p2 (aIq p3 (aIq hXs (aIq hX hsl)))))
  have HY:=(hIq hr (aIq hYs (aIq hY hul)))
  have HS:=(hIq rk (aIq rq (aIq hch (aIq hAw (aIq hbc (aIq hst hg))))))
  clear hk hg hr hch p1 p2 p3 hst hAw rk rq hup hbt hbc hX hY hXs hYs hsx hsl hul e1
  go_wp2_with (first
   | fail
   | ((with_reducible show zOq (.load 24 _));refine AF rfl 24 _ rfl B0 0 rfl HS.out.1 Tryz.underlying24 rfl AW (by rw[HK.out];omega) K (by simp[←HK.out]) ?_))
  refine HS.out.2.2.2.2.1.mono ?_;rintro e w4 ⟨rfl,a4⟩;have H4:=(hIq (a4.row HS.out.2.1 id) (aIq (a4.row HY.out.1 id) (aIq (a4.row HX.out.1 id) (aIq (HS.out.2.2.1.trans a4 (fun _=>fEq)) (HS.out.2.2.2.1.trans a4 (fun _=>fEq))))))
  clear a4;by_cases hb:bt=0
  · subst hb
    go_upto_region 10 with fail;refine AO (fun w0=>w0.heap[B6]?=some (.cells Y 85 (0,0))∧w0.heap[B0+1]?=some (.cells Q 117 (0,0))∧w0.heap[g0]?=some (.cells cur ty fr)) 7 [(0,false),(1,false),(2,false),(3,false),(4,false),(5,false),(6,true)] (by kernel_rfl) (by kernel_rfl) ?_ ?_
    · exact⟨AP H4.out.2.1,AP H4.out.1,AP H4.out.2.2.1⟩
    refine Ac (cur:=Y) (t:=85) (fr:=(0,0)) rfl rfl 85 _ rfl B6 0 32 rfl (fun w0 hS=>hS.1) Tryz.underlying85 rfl BI (by rw[HY.out.2.1];exact Nat.le_refl _) Y (by have:=HY.out.2.1;simp[←this]) ?_;simp only[Act.put,nAq,nBq,nCq]
    iterate 1 refine plan_look rfl rfl (fun w0 hS=>(by go_simp;try rfl)) ?_
    simp only[Act.put,nAq,nBq,nCq];refine plan_look (v:=.slice (some ⟨g0,off,none⟩) n cap) rfl rfl (fun w0 hS=>(by have c1:w0.cell? ⟨B0+1,0,none⟩=some (.slice (some ⟨g0,off,none⟩) n cap):=AH hS.2.1 HQ.out.2.1;clear hS;go_simp;try rfl)) ?_;simp only[Act.put,nAq,nBq,nCq]
    iterate 1 refine plan_look rfl rfl (fun w0 hS=>(by go_simp;try rfl)) ?_
    simp only[Act.put,nAq,nBq,nCq]
    iterate 1 refine plan_look rfl rfl (fun w0 hS=>(by go_simp;try rfl)) ?_
    simp only[Act.put,nAq,nBq,nCq];refine Ac (cur:=cur) (t:=ty) (fr:=fr) rfl rfl 85 _ rfl g0 (off+k*32) 32 rfl (fun w0 hS=>hS.2.2) Tryz.underlying85 rfl BI HX.out.2.1 X HX.out.2.2.1 ?_;simp only[Act.put,nAq,nBq,nCq];have hcl:=fun w=>HC.out.2.1 up sx HY.out.2.2.2 HX.out.2.2.2.2.2 w
    rw[←HY.out.2.2.1, ←HX.out.2.2.2.2.1] at hcl;obtain⟨R,hR⟩:∃R,R=AM (Tag.Cn up sx):=⟨_,rfl⟩
    rw[←hR] at hcl;have hRs:R.size=32:=by rw[hR,AN];exact Tag.AV _ _
    have HR:=(hIq hRs (aIq (show ∀v∈R.toList,v.oneCell'=true by rw[hR];exact Ah _) (aIq hcl hR)))
    clear hcl hR hRs;refine Aa rfl ?_;go_wp2_with fail;refine(HR.out.2.2.1 _).mono ?_;rintro e w5 ⟨rfl,a5⟩;have a5':Adds w4 w5:=(Ch.refl _ _).drew.trans a5 (fun _=>fEq);have H5:=(hIq (a5'.row H4.out.1 id) (aIq (a5'.row H4.out.2.1 id) (aIq (a5'.row H4.out.2.2.1 id) (H4.out.2.2.2.1.trans a5' (fun _=>fEq)))))
    clear a5 a5';dsimp only;go_step;refine wpList_nil ?_;change _∧_;refine⟨⟨H5.out.2.1,H5.out.1,H5.out.2.2.1⟩,?_⟩;refine Ad ?_;simp only[List.drop_succ_cons,List.drop_zero]
    go_wp2_with (first
     | fail
     | ((with_reducible show zOq (.store 85 _ _));refine AE rfl 85 _ _ rfl B6 0 R rfl rfl H5.out.2.1 (by rw[BI,HR.out.1]) (by rw[HR.out.1,HY.out.2.1];omega) HR.out.2.1 R (by rw[AK _ _ (by rw[Array.length_toList,Array.length_toList,HR.out.1,HY.out.2.1])]) ?_))
    refine NoPanic.normal ?_;obtain⟨w6,hw6⟩:∃w6,w6=w5.setRow B6 R:=⟨_,rfl⟩
    rw[←hw6];have r6:w6.heap[B6]?=some (.cells (AM (EI key l h0 k)) 85 (0,0)):=by rw[HS.out.2.2.2.2.2.1,if_pos trivial, ←HR.out.2.2.2,hw6];exact AG H5.out.2.1 R
    have ch6:Ch (fun j=>j=B6) w3 w6:=by rw[hw6];exact H5.out.2.2.2.setRow (.inl rfl) _
    have H6:=(hIq r6 ch6)
    clear r6 ch6 hw6;go_wp2;go_roundg k
    case measure=>have:=HS.out.2.2.2.2.2.2;omega
    exact⟨k,by omega,rfl,by first|rfl|(simp[hwk];done),H6.out.1,H6.out.2⟩
  have hb':¬((bt:Nat):Int)=0:=by omega
  have hb'':(((bt:Nat):Int) == 0)=false:=by simpa using hb
  have HB:=Lib.hid hb;clear hb;go_upto_region 11 with fail;refine AO (fun w0=>w0.heap[B6]?=some (.cells Y 85 (0,0))∧w0.heap[B0+1]?=some (.cells Q 117 (0,0))∧w0.heap[g0]?=some (.cells cur ty fr)) 7 [(0,false),(1,false),(2,false),(3,false),(4,false),(5,false),(6,true)] (by kernel_rfl) (by kernel_rfl) ?_ ?_
  · exact⟨AP H4.out.2.1,AP H4.out.1,AP H4.out.2.2.1⟩
  iterate 1 refine plan_look rfl rfl (fun w0 hS=>(by go_simp;try rfl)) ?_
  simp only[Act.put,nAq,nBq,nCq];refine plan_look (v:=.slice (some ⟨g0,off,none⟩) n cap) rfl rfl (fun w0 hS=>(by have c1:w0.cell? ⟨B0+1,0,none⟩=some (.slice (some ⟨g0,off,none⟩) n cap):=AH hS.2.1 HQ.out.2.1;clear hS;go_simp;try rfl)) ?_;simp only[Act.put,nAq,nBq,nCq]
  iterate 1 refine plan_look rfl rfl (fun w0 hS=>(by go_simp;try rfl)) ?_
  simp only[Act.put,nAq,nBq,nCq]
  iterate 1 refine plan_look rfl rfl (fun w0 hS=>(by go_simp;try rfl)) ?_
  simp only[Act.put,nAq,nBq,nCq];refine Ac (cur:=cur) (t:=ty) (fr:=fr) rfl rfl 85 _ rfl g0 (off+k*32) 32 rfl (fun w0 hS=>hS.2.2) Tryz.underlying85 rfl BI HX.out.2.1 X HX.out.2.2.1 ?_;simp only[Act.put,nAq,nBq,nCq];refine Ac (cur:=Y) (t:=85) (fr:=(0,0)) rfl rfl 85 _ rfl B6 0 32 rfl (fun w0 hS=>hS.1) Tryz.underlying85 rfl BI (by rw[HY.out.2.1];exact Nat.le_refl _) Y (by have:=HY.out.2.1;simp[←this]) ?_;simp only[Act.put,nAq,nBq,nCq];have hcl:=fun w=>HC.out.2.1 sx up HX.out.2.2.2.2.2 HY.out.2.2.2 w
  rw[←HY.out.2.2.1, ←HX.out.2.2.2.2.1] at hcl;obtain⟨R,hR⟩:∃R,R=AM (Tag.Cn sx up):=⟨_,rfl⟩
  rw[←hR] at hcl;have hRs:R.size=32:=by rw[hR,AN];exact Tag.AV _ _
  have HR:=(hIq hRs (aIq (show ∀v∈R.toList,v.oneCell'=true by rw[hR];exact Ah _) (aIq hcl hR)))
  clear hcl hR hRs;refine Aa rfl ?_;go_wp2_with fail;refine(HR.out.2.2.1 _).mono ?_;rintro e w5 ⟨rfl,a5⟩;have a5':Adds w4 w5:=(Ch.refl _ _).drew.trans a5 (fun _=>fEq);have H5:=(hIq (a5'.row H4.out.1 id) (aIq (a5'.row H4.out.2.1 id) (aIq (a5'.row H4.out.2.2.1 id) (H4.out.2.2.2.1.trans a5' (fun _=>fEq)))))
  clear a5 a5';dsimp only;go_step;refine wpList_nil ?_;change _∧_;refine⟨⟨H5.out.2.1,H5.out.1,H5.out.2.2.1⟩,?_⟩;refine Ad ?_;simp only[List.drop_succ_cons,List.drop_zero]
  go_wp2_with (first
   | fail
   | ((with_reducible show zOq (.store 85 _ _));refine AE rfl 85 _ _ rfl B6 0 R rfl rfl H5.out.2.1 (by rw[BI,HR.out.1]) (by rw[HR.out.1,HY.out.2.1];omega) HR.out.2.1 R (by rw[AK _ _ (by rw[Array.length_toList,Array.length_toList,HR.out.1,HY.out.2.1])]) ?_))
  refine NoPanic.normal ?_;obtain⟨w6,hw6⟩:∃w6,w6=w5.setRow B6 R:=⟨_,rfl⟩
  rw[←hw6];have r6:w6.heap[B6]?=some (.cells (AM (EI key l h0 k)) 85 (0,0)):=by rw[HS.out.2.2.2.2.2.1,if_neg HB.out, ←HR.out.2.2.2,hw6];exact AG H5.out.2.1 R
  have ch6:Ch (fun j=>j=B6) w3 w6:=by rw[hw6];exact H5.out.2.2.2.setRow (.inl rfl) _
  have H6:=(hIq r6 ch6)
  clear r6 ch6 hw6;go_wp2;go_roundg k
  case measure=>have:=HS.out.2.2.2.2.2.2;omega
  exact⟨k,by omega,rfl,by first|rfl|(simp[hwk];done),H6.out.1,H6.out.2⟩
end
theorem L5 {b d:Nat} {L:AQ} {e:List UInt8×List UInt8} (h:e∈sideE b d L):AS e.1 d=b:=by
 unfold sideE at h;simpa using (List.mem_filter.1 h).2
theorem QY (key:List UInt8):∀m,m≤256→∀ {L:AQ} {k0:List UInt8},L.Ok k0 (256-m)→∀e∈((tree m L).stop key (256-m)).ents,∀i,i<((tree m L).sides key (256-m)).length→AS e.1 (256-m+i)=AS key (256-m+i):=by
 intro m
 induction m with
 | zero =>
  intro _ L k0 hO e he i hi
  match L,hO.few with
  | [],_=>exact absurd hi (by simp[tree,Tr.sides])
  | [p],_=>exact absurd hi (by simp[tree,Tr.sides])
  | _::_::_,hf=>simp at hf
 | succ m ih =>
  intro hm L k0 hO e he i hi;by_cases h2:2≤L.length
  · rw[Bg h2] at he hi
    obtain⟨k1,o1⟩:=D3 hO 0;obtain⟨k2,o2⟩:=D3 hO 1;rw[show 256-(m+1)+1=256-m by omega,show 256-(m+1)=255-m by omega] at o1 o2;rw[show 256-(m+1)=255-m by omega] at he hi ⊢;unfold Tr.stop at he;unfold Tr.sides at hi;by_cases hb:AS key (255-m)=0
    · rw[if_pos hb] at he hi
      rw[show 255-m+1=256-m by omega] at he hi;cases i with
      | zero =>
       have h1:=(Iz m (by omega) o1).mem_iff.1 (DA key _ _ e he);rw[Nat.add_zero,hb];exact L5 h1
      | succ i =>
       have:=ih (by omega) o1 e he i (by simpa using hi);rw[show 255-m+(i+1)=256-m+i by omega];exact this
    rw[if_neg hb] at he hi;rw[show 255-m+1=256-m by omega] at he hi;cases i with
    | zero =>
     have h1:=(Iz m (by omega) o2).mem_iff.1 (DA key _ _ e he);have h3:=L5 h1;rcases Aq key (255-m) with h4|h4
     · exact absurd h4 hb
     rw[Nat.add_zero,h3,h4]
    | succ i =>
     have:=ih (by omega) o2 e he i (by simpa using hi);rw[show 255-m+(i+1)=256-m+i by omega];exact this
  match L,h2 with
  | [],_=>exact absurd hi (by simp[tree,Tr.sides])
  | [p],_=>exact absurd hi (by simp[tree,Tr.sides])
  | _::_::_,h2=>exact absurd (by simp) h2
section
variable {σ : AD Nd} {root : Int} {L : AQ} {key : List UInt8}
theorem Db.ok (D:Db σ root L):L.Ok [] (256-256):=AQ.Ok.any D.nodup D.len []
theorem NL (D:Db σ root L) (hk:key.length=32) {a b:List UInt8} (h:(tree 256 L).stop key 0=.leaf a b):((tree 256 L).sides key 0).length≤common a key:=by
 have h1:=QY key 256 (Nat.le_refl _) (Db.ok D) (a,b) (by rw[Nat.sub_self,h];exact List.mem_singleton.2 rfl);rw[Nat.sub_self] at h1;have ha:a.length=32:=D.len (a,b) (D.ents.mem_iff.1 (DA key _ 0 (a,b) (by rw[h];exact List.mem_singleton.2 rfl)));obtain⟨l,e1,ho⟩:=On.ex (k:=key) D.rep;have h2:=(ho.sides D.good.fit D.rep).1;have h3:=ho.len D.good.fit (Nat.zero_le _);refine Ci ha hk (by omega) fun i hi=>?_
 have:=h1 i hi;rw[Nat.zero_add] at this;exact this
theorem PU (D:Db σ root L) (hk:key.length=32) (b:List UInt8):(tree 256 L).stop key 0=.leaf key b↔(key,b)∈L:=by
 constructor
 · intro h
   exact D.ents.mem_iff.1 (DA key _ 0 (key,b) (by rw[h];exact List.mem_singleton.2 rfl))
 intro h;obtain⟨l,e1,ho⟩:=On.ex (k:=key) D.rep;obtain⟨_,_,hst⟩:=ho.sides D.good.fit D.rep;obtain⟨x,hx,h1,h2,h3⟩:=On.Gy D.good.fit.zero 256 (Nat.le_refl _) (AQ.Ok.any D.nodup D.len key) h D.rep ho;generalize hs:(tree 256 L).stop key 0=t at hst;have hn:=EV key (tree 256 L) 0;rw[hs] at hn;cases hst with
 | nil=>rw[D.good.fit.zero] at hx;cases hx
 | leaf hn' hk' =>
  rw[hx] at hn';cases hn';rw[h2,h3]
 | node=>cases hn
theorem Qk (D:Db σ root L):D8 ((tree 256 L).sides key 0)≤L.length-1:=by
 have h1:=I1 key (tree 256 L) 0 (Sj 256 (Nat.le_refl _) (Db.ok D));rw[←Tr.D7,D.ents.length_eq] at h1;omega
end
section
variable {w w' : World} {key : List UInt8} {v : Value} {t : Tr}
theorem Gc (v:Value) {N C:Array Value} {o n:Nat} (h:N.extract o (o+n)=C):(Aj v N).extract (1+o) (1+o+n)=C:=by
 rw[←h];apply Array.ext';rw[Array.toList_extract,Array.toList_extract,List.extract_eq_take_drop,List.extract_eq_take_drop];have e1:(Aj v N).toList=v::N.toList:=by simp[Aj]
 rw[e1,show 1+o=o+1 by omega,List.drop_succ_cons]
 congr 1
 omega
theorem DW {P:Program} {fn:Func} {R:Ending→World→Prop} {a:Act} {w:World} {p u:Tmp} {ty t:TypeId} {g:Nat} {cs:Array Value} {fr:Nat×Nat} {d:TypeDesc} (h:fn.results=#[.tmp u,.cell p ty]) (hp:a.tmps.getD p undef=.pointer (some ⟨g,0,none⟩)) (hg:w.heap[g]?=some (.cells cs t fr))
 (hu:P.underlying ty=some d) (hd:d.isRow=true) (hi:(P.info? ty).map (·.size)=some cs.size) (hdef:a.defers = []) (hR:R (.returned (.tuple #[a.tmps.getD u undef,.agg cs])) w):bodyPost P fn R .ret a w:=by
 refine bodyPost_ret (v:=.tuple #[a.tmps.getD u undef,.agg cs]) ?_ hdef hR;have:=Bf (P:=P) w (off:=0) hg hu hd hi (by simp);simp at this;simp only[Array.getD_eq_getD_getElem?] at hp;simp[results,h,hp,asAddr,this]
def OP (w:World) (t:Tr) (key:List UInt8) (e:Ending) (w':World):Prop:=∃is H,e=.returned (.tuple #[.bool is,.agg (AM H)])∧H.length=32∧Adds w w'∧((is=true∧∃b,t=.leaf key b∧H=Tag.Aw b)∨(is=false∧H=List.replicate 32 0∧∀b,t≠.leaf key b))
theorem U1 (hk:key.length=32) (ht:t.isNode=false) (hte:∀e∈t.ents,e.1.length=32) (w:World) :
 Calls Tryz.prog 57 #[.agg (AM key),.agg (Aj v (EC t))] w (OP w t key):=by
 obtain⟨kd,hkd,hkn,hk1⟩:=Ho ht;obtain⟨hNs,hN1⟩:=DT ht hte;obtain⟨Q,hQ⟩:∃Q,Q=Aj v (EC t):=⟨_,rfl⟩
 have hQs:Q.size=130:=by rw[hQ];exact Ae hNs
 have hQ1:Q[1]?=some (.int .u8 kd):=by rw[hQ];exact GR _ _ _ hkd
 obtain⟨K,hK⟩:∃K,K=AM key:=⟨_,rfl⟩
 have hKs:K.size=32:=by rw[hK,AN,hk]
 obtain⟨Z,hZ⟩:∃Z,Z=AM (List.replicate 32 0):=⟨_,rfl⟩
 have hzh:=Hs;have hzb:Tryz.prog.built 85 []=some Z:=by rw[hZ];kernel_rfl
 have hZs:Z.size=32:=by rw[hZ];rfl
 have hZ1:∀v∈Z.toList,v.oneCell'=true:=by rw[hZ];exact Ah _
 rw[←hZ] at hzh;have HZ:=(hIq hzh (aIq hZs (aIq hzb (aIq hZ1 hZ))))
 have HQ:=(hIq hQs hQ1)
 have HK:=Lib.hid hKs;by_cases hn:t=.nil
 · have hkd0:¬kd=1:=fun e=>hk1.1 e hn
   have hkd0':(kd == 1)=false:=by simpa using hkd0
   have HT:=Lib.hid (show ∀b,t≠.leaf key b from fun b e=>by rw[hn] at e;cases e);rw[←hQ, ←hK];clear hkd hkn hk1 hNs hN1 hQ hQs hQ1 hK hKs hZ hzh hzb hZs hZ1 hn ht hte hk;go_enter Tryz.func57,Tryz.ntmps57;go_upto_region 1 with(first|fail|((with_reducible show zOq (.alloc 85));refine AI rfl 85 rfl (.agg Z) HZ.out.1 ?_;dsimp only[Value.cells];try simp only[World.size_alloc]))
   refine BQ (fun w1 hw1=>?_);have a1:Adds w w1:=by rw[hw1];exact(((Ch.refl _ _).alloc _).alloc _).alloc _
   obtain⟨B0,hB0⟩:∃B0,B0=w.heap.size:=⟨_,rfl⟩
   have r1:w1.heap[B0+1]?=some (.cells Q 117 (0,0)):=by
    rw[hw1,hB0];refine AJ ?_ _;have:=heap_alloc_new (w.alloc (.cells K 24)) (.cells Q 117);simpa using this
   have r2:w1.heap[B0+1+1]?=some (.cells Z 85 (0,0)):=by
    rw[hw1,hB0,Av];simp
   rw[←hB0];have c1:=AH r1 HQ.out.2;have H1:=(hIq a1 (aIq r2 hB0))
   clear a1 r1 r2 hw1 hB0
   go_wp2_with (first
    | fail
    | ((with_reducible show zOq (.build 85 #[]));refine Bw rfl 85 rfl Z HZ.out.2.2.1 ?_)
    | ((with_reducible show zOq (.store 85 _ _));refine AE rfl 85 _ _ rfl (B0+1+1) 0 Z rfl rfl H1.out.2.1 (by rw[BI,HZ.out.2.1]) (by rw[HZ.out.2.1];omega) HZ.out.2.2.2.1 Z (by rw[AK _ _ rfl]) ?_))
   exact DW (u:=4) (p:=5) rfl rfl (AG H1.out.2.1 _) Tryz.underlying85 rfl (by rw[BI,HZ.out.2.1]) rfl
    ⟨false,List.replicate 32 0,by rw[←HZ.out.2.2.2.2];rfl,by simp,H1.out.1.setRow (.inr (by have:=H1.out.2.2;omega)) _,.inr ⟨rfl,rfl,HT.out⟩⟩
 have hkd1:kd=1:=hk1.2 hn;subst hkd1
 obtain⟨a,b,rfl⟩:∃a b,t=.leaf a b:=by
  cases t with
  | nil=>exact absurd rfl hn
  | leaf a b=>exact⟨a,b,rfl⟩
  | node=>cases ht
 have ha:a.length=32:=hte (a,b) (List.mem_singleton.2 rfl);obtain⟨bv,hbv⟩:∃bv,bv=Tag.Aw b:=⟨_,rfl⟩
 have hbl:bv.length=32:=by rw[hbv];exact Tag.AV _ _
 obtain⟨_,ka,kb⟩:=DY (k:=1) ha hbl (c:=Nd.z32) (d:=Nd.z32) rfl rfl;have qa:=Gc v ka;have qb:=Gc v kb;rw[hbv] at qa qb;have hQe:Aj v (Bx 1 a (Tag.Aw b) Nd.z32 Nd.z32)=Q:=hQ.symm;rw[hQe] at qa qb;rw[←hbv] at qb;obtain⟨X,hX⟩:∃X,X=AM a:=⟨_,rfl⟩
 obtain⟨Y,hY⟩:∃Y,Y=AM bv:=⟨_,rfl⟩
 rw[←hX] at qa;rw[←hY] at qb;have hYs:Y.size=32:=by rw[hY,AN,hbl]
 have heq:=fun w=>Fg 24 Tryz.underlying24 a key ha hk w
 obtain⟨eb,heb⟩:∃eb,eb=decide (a=key):=⟨_,rfl⟩
 rw[←hX, ←hK, ←heb] at heq;have HX:=(hIq qa (aIq qb (aIq hYs (aIq (show ∀v∈Y.toList,v.oneCell'=true by rw[hY];exact Ah _) (aIq hY (aIq hbv (aIq hbl heb)))))))
 rw[←hQ, ←hK];clear hkd hkn hk1 hNs hN1 hQ hQs hQ1 hK hKs hZ hzh hzb hZs hZ1 hn ht hte hk ha hbv hbl ka kb qa qb hQe hX hY hYs heb;go_enter Tryz.func57,Tryz.ntmps57;go_upto_region 1 with(first|fail|((with_reducible show zOq (.alloc 85));refine AI rfl 85 rfl (.agg Z) HZ.out.1 ?_;dsimp only[Value.cells];try simp only[World.size_alloc]))
 refine BQ (fun w1 hw1=>?_);have a1:Adds w w1:=by rw[hw1];exact(((Ch.refl _ _).alloc _).alloc _).alloc _
 obtain⟨B0,hB0⟩:∃B0,B0=w.heap.size:=⟨_,rfl⟩
 have r0:w1.heap[B0]?=some (.cells K 24 (0,0)):=by rw[hw1,hB0];exact AJ (AJ (heap_alloc_new _ _) _) _
 have r1:w1.heap[B0+1]?=some (.cells Q 117 (0,0)):=by
  rw[hw1,hB0];refine AJ ?_ _;have:=heap_alloc_new (w.alloc (.cells K 24)) (.cells Q 117);simpa using this
 have r2:w1.heap[B0+1+1]?=some (.cells Z 85 (0,0)):=by
  rw[hw1,hB0,Av];simp
 rw[←hB0];have c1:=AH r1 HQ.out.2;have H1:=(hIq a1 (aIq r2 (aIq hB0 (aIq r0 r1))))
 clear a1 r0 r1 r2 hw1 hB0;cases eb with
 | true =>
  go_upto_region 2 with(first
   | fail
   | ((with_reducible show zOq (.load 24 _));refine Ax (by first|rfl|(simp[Region.wanted];done)) 24 _ rfl (B0+1) 2 rfl H1.out.2.2.2.2 Tryz.underlying24 rfl AW (by rw[HQ.out.1];omega) X HX.out.1 ?_)
   | ((with_reducible show zOq (.load 24 _));refine Ax (by first|rfl|(simp[Region.wanted];done)) 24 _ rfl B0 0 rfl H1.out.2.2.2.1 Tryz.underlying24 rfl AW (by rw[HK.out];omega) K (by simp[←HK.out]) ?_))
  refine AO (fun w0=>w0.heap[B0+1]?=some (.cells Q 117 (0,0))) 4 [(0,false),(1,false),(2,false),(3,false)] (by kernel_rfl) (by kernel_rfl) ?_ ?_
  · exact AP H1.out.2.2.2.2
  iterate 2
   iterate 1 refine plan_look rfl rfl (fun w0 hS=>(by go_simp;try rfl)) ?_
   simp only[Act.put,nAq,nBq,nCq]
  refine Ac (cur:=Q) (t:=117) (fr:=(0,0)) rfl rfl 85 _ rfl (B0+1) 34 32 rfl (fun w0 hS=>hS) Tryz.underlying85 rfl BI (by rw[HQ.out.1];omega) Y HX.out.2.1 ?_;simp only[Act.put,nAq,nBq,nCq]
  iterate 1 refine plan_look rfl rfl (fun w0 hS=>(by go_simp;try rfl)) ?_
  simp only[Act.put,nAq,nBq,nCq];refine Ad ?_;simp only[List.drop_succ_cons,List.drop_zero]
  go_wp2_with (first
   | fail
   | ((with_reducible show zOq (.store 85 _ _));refine AE rfl 85 _ _ rfl (B0+1+1) 0 Y rfl rfl (AP H1.out.2.1) (by rw[BI,HX.out.2.2.1]) (by rw[HX.out.2.2.1,HZ.out.2.1];omega) HX.out.2.2.2.1 Y (by rw[AK _ _ (by rw[Array.length_toList,Array.length_toList,HX.out.2.2.1,HZ.out.2.1])]) ?_))
  refine NoPanic.normal ?_;go_wp2
  exact DW (u:=4) (p:=5) rfl rfl (AG (AP H1.out.2.1) _) Tryz.underlying85 rfl (by rw[BI,HX.out.2.2.1]) rfl
   ⟨true,bv,by rw[←HX.out.2.2.2.2.1];rfl,HX.out.2.2.2.2.2.2.1,H1.out.1.drew.setRow (.inr (by have:=H1.out.2.2.1;omega)) _,.inl ⟨rfl,b,by rw[of_decide_eq_true HX.out.2.2.2.2.2.2.2.symm],HX.out.2.2.2.2.2.1⟩⟩
 | false =>
  go_wp2_with (first
   | fail
   | ((with_reducible show zOq (.load 24 _));refine Ax (by first|rfl|(simp[Region.wanted];done)) 24 _ rfl (B0+1) 2 rfl H1.out.2.2.2.2 Tryz.underlying24 rfl AW (by rw[HQ.out.1];omega) X HX.out.1 ?_)
   | ((with_reducible show zOq (.load 24 _));refine Ax (by first|rfl|(simp[Region.wanted];done)) 24 _ rfl B0 0 rfl H1.out.2.2.2.1 Tryz.underlying24 rfl AW (by rw[HK.out];omega) K (by simp[←HK.out]) ?_)
   | ((with_reducible show zOq (.build 85 #[]));refine Bw rfl 85 rfl Z HZ.out.2.2.1 ?_)
   | ((with_reducible show zOq (.store 85 _ _));refine AE rfl 85 _ _ rfl (B0+1+1) 0 Z rfl rfl H1.out.2.1 (by rw[BI,HZ.out.2.1]) (by rw[HZ.out.2.1];omega) HZ.out.2.2.2.1 Z (by rw[AK _ _ rfl]) ?_))
  exact DW (u:=4) (p:=5) rfl rfl (AG H1.out.2.1 _) Tryz.underlying85 rfl (by rw[BI,HZ.out.2.1]) rfl
   ⟨false,List.replicate 32 0,by rw[←HZ.out.2.2.2.2];rfl,by simp,H1.out.1.setRow (.inr (by have:=H1.out.2.2.1;omega)) _,.inr ⟨rfl,rfl,fun b' e=>by injection e with e _;exact absurd e (of_decide_eq_false HX.out.2.2.2.2.2.2.2.symm)⟩⟩
end
end Go.Proofs.YtooijgcildbnlaaGreat.Law15
