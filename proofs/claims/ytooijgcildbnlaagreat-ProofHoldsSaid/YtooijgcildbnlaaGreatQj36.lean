/- Laws of the layers below. -/
import Derived.Test.YtooijgcildbnlaaGreatQj35
set_option maxHeartbeats 3200000
set_option maxRecDepth 100000
set_option linter.unusedVariables false
namespace Go.Proofs.YtooijgcildbnlaaGreat.Law15
open Go.RowKit Go.Sort Go.Proofs.YtooijgcildbnlaaGreat.ShaW Go.Proofs.YtooijgcildbnlaaGreat.Path Go.Proofs.YtooijgcildbnlaaGreat.Store Go.Proofs.YtooijgcildbnlaaGreat.BE Go.Proofs.YtooijgcildbnlaaGreat.Law14
section
variable {w w' : World} {key : List UInt8} {v : Value} {t : Tr} {l : List (List UInt8)}
theorem Sm (hv:DK w v l) (hl:l.length≤256) {N:Array Value} (hN:N.size=129) :
 Calls Tryz.prog 59 #[.agg (Aj v N)] w fun e w'=>e=.returned (.int .i64 ((D8 l:Nat):Int))∧Adds w w':=by
 obtain⟨ao,cap,rfl,hrow,hls⟩:=hv;obtain⟨n,hn⟩:∃n,n=l.length:=⟨_,rfl⟩
 have hn256:n≤256:=by omega
 rw[←hn];obtain⟨Q,hQ⟩:∃Q,Q=Aj (.slice ao n cap) N:=⟨_,rfl⟩
 have hQs:Q.size=130:=by rw[hQ];exact Ae hN
 have hQ0:Q[0]?=some (.slice ao n cap):=by rw[hQ];exact Ei _ _
 rw[←hQ];obtain⟨Z,hZ⟩:∃Z,Z=AM (List.replicate 32 0):=⟨_,rfl⟩
 have hzh:=Hs;have hZs:Z.size=32:=by rw[hZ];rfl
 rw[←hZ] at hzh;obtain⟨E,hE⟩:∃E,E=AM Tag.Cb:=⟨_,rfl⟩
 have hel:Tag.Cb.length=32:=Tag.AV _ _;have hEs:E.size=32:=by rw[hE,AN,hel]
 have hec:=fun w=>Tag.N9 w
 rw[←hE] at hec;have HQ:=(hIq hQs hQ0)
 have HL:=(hIq hrow (aIq hls hn))
 have HZ:=(hIq hzh hZs)
 have HE:=(hIq hec (aIq hEs (aIq (show ∀v∈E.toList,v.oneCell'=true by rw[hE];exact Ah _) (aIq hE hel))))
 clear hrow hls hn hQ hQs hQ0 hzh hZs hZ hE hel hEs hec hl hN;go_enter Tryz.func59,Tryz.ntmps59;go_wp2_with fail;refine(HE.out.1 _).mono ?_;rintro e w2 ⟨rfl,a2⟩;have r0:=a2.row (heap_alloc_new w (.cells Q 117)) id;have H2:=(hIq (((Ch.refl (fun _=>False) w).alloc (.cells Q 117)).trans a2 (fun _=>fEq)) r0)
 clear a2 r0
 go_upto_region 2 with(first
  | fail
  | ((with_reducible show zOq (.alloc 85));refine AI rfl 85 rfl (.agg Z) HZ.out.1 ?_;dsimp only[Value.cells];try simp only[World.size_alloc])
  | ((with_reducible show zOq (.store 85 _ _));refine AE rfl 85 _ _ rfl w2.heap.size 0 E rfl rfl (heap_alloc_new _ _) (by rw[BI,HE.out.2.1]) (by rw[HE.out.2.1,HZ.out.2];omega) HE.out.2.2.1 E (by rw[AK _ _ (by rw[Array.length_toList,Array.length_toList,HE.out.2.1,HZ.out.2])]) ?_))
 refine BQ (fun w3 hw3=>?_);have a3:Adds w2 w3:=by rw[hw3];exact((Ch.refl _ _).alloc _).setRow (.inr (Nat.le_refl _)) _
 have r3:w3.heap[w2.heap.size]?=some (.cells E 85 (0,0)):=by rw[hw3];exact AG (heap_alloc_new w2 (.cells Z 85)) E
 have c0:=AH (a3.row H2.out.2 id) HQ.out.2;have H3:=(hIq (H2.out.1.trans a3 (fun _=>fEq)) r3)
 clear a3 r3 hw3;go_wp2_with fail;clear c0;go_loopg [3,6,11] n (fun g s3 s6 s11 wr=>∃k c:Nat,s11=.int .i64 (k:Nat)∧k+g=n∧c=D8 (l.take k)∧c≤k∧s3=.int .i64 (c:Nat)∧Adds w3 wr)
 case atStart=>exact⟨0,0,rfl,by omega,rfl,Nat.le_refl _,rfl,Ch.refl _ _⟩
 obtain⟨k,c,rfl,hk,hc,hck,rfl,hA⟩:=hrel;have HS:=(hIq hk (aIq hc (aIq hck hA)))
 by_cases hkn:k<n
 · have h1:decide ((k:Int)<(n:Int))=true:=decide_eq_true (by omega)
   have h2:(k:Int)<(n:Int):=by omega
   have hwk:wrap64 ((k:Int)+1)=(k:Int)+1:=by unfold wrap64;omega
   have hwc:wrap64 ((c:Int)+1)=(c:Int)+1:=by unfold wrap64;omega
   obtain⟨sx,hsx⟩:∃sx,l[k]?=some sx:=⟨_,List.getElem?_eq_getElem (by have:=HL.out.2.2;omega)⟩
   have hsl:=HL.out.2.1 sx (List.mem_of_getElem? hsx);obtain⟨g0,off,rfl,cur,ty,fr,p1,p2,p3⟩:=HL.out.1 k sx hsx;have hft:D8 (l.take (k+1))=c+(if sx=Tag.Cb then 0 else 1):=by rw[List.take_add_one,hsx,Option.toList_some,O3,hc]
   have hneq:=fun w=>ID 85 Tryz.underlying85 sx Tag.Cb hsl HE.out.2.2.2.2 w
   obtain⟨X,hX⟩:∃X,X=AM sx:=⟨_,rfl⟩
   have hXs:X.size=32:=by rw[hX,AN,hsl]
   rw[←hX,hXs] at p2 p3;rw[←hX, ←HE.out.2.2.2.1] at hneq;have HX:=(hIq ((H3.out.1.trans hA (fun _=>fEq)).row p1 id) (aIq p2 (aIq p3 (aIq hXs (aIq (show ∀v∈X.toList,v.oneCell'=true by rw[hX];exact Ah _) hft)))))
   clear hk hc hck hA p1 p2 p3 hsx hsl hX hXs hft
   go_upto_region 5 with(first
    | fail
    | ((with_reducible show zOq (.load 85 _));refine AF rfl 85 _ rfl g0 (off+k*32) rfl HX.out.1 Tryz.underlying85 rfl BI HX.out.2.1 X HX.out.2.2.1 ?_)
    | ((with_reducible show zOq (.alloc 85));refine AI rfl 85 rfl (.agg Z) HZ.out.1 ?_;dsimp only[Value.cells];try simp only[World.size_alloc])
    | ((with_reducible show zOq (.store 85 _ _));refine AE rfl 85 _ _ rfl wr.heap.size 0 X rfl rfl (heap_alloc_new _ _) (by rw[BI,HX.out.2.2.2.1]) (by rw[HX.out.2.2.2.1,HZ.out.2];omega) HX.out.2.2.2.2.1 X (by rw[AK _ _ (by rw[Array.length_toList,Array.length_toList,HX.out.2.2.2.1,HZ.out.2])]) ?_))
   refine BQ (fun w4 hw4=>?_);have a4:Adds wr w4:=by rw[hw4];exact((Ch.refl _ _).alloc _).setRow (.inr (Nat.le_refl _)) _
   have r4:w4.heap[wr.heap.size]?=some (.cells X 85 (0,0)):=by rw[hw4];exact AG (heap_alloc_new wr (.cells Z 85)) X
   have H4:=(hIq (HS.out.2.2.2.trans a4 (fun _=>fEq)) (aIq r4 ((HS.out.2.2.2.trans a4 (fun _=>fEq)).row H3.out.2 id)))
   clear a4 r4 hw4;by_cases he:sx=Tag.Cb
   · rw[decide_eq_true he] at hneq
     have HEQ:=Lib.hid he;clear he
     go_wp2_with (first
      | fail
      | ((with_reducible show zOq (.load 85 _));refine AF rfl 85 _ rfl wr.heap.size 0 rfl H4.out.2.1 Tryz.underlying85 rfl BI (by rw[HX.out.2.2.2.1];omega) X (by have:=HX.out.2.2.2.1;simp[←this]) ?_)
      | ((with_reducible show zOq (.load 85 _));refine AF rfl 85 _ rfl w2.heap.size 0 rfl H4.out.2.2 Tryz.underlying85 rfl BI (by rw[HE.out.2.1];omega) E (by have:=HE.out.2.1;simp[←this]) ?_))
     go_roundg (n-(k+1))
     case measure=>have:=HS.out.1;omega
     exact⟨k+1,c,by first|(simp;done)|(simp[hwk];done),by omega,by rw[HX.out.2.2.2.2.2,if_pos HEQ.out,Nat.add_zero],by have:=HS.out.2.2.1;omega,rfl,H4.out.1⟩
   rw[decide_eq_false he] at hneq;have HEQ:=Lib.hid he;clear he
   go_wp2_with (first
    | fail
    | ((with_reducible show zOq (.load 85 _));refine AF rfl 85 _ rfl wr.heap.size 0 rfl H4.out.2.1 Tryz.underlying85 rfl BI (by rw[HX.out.2.2.2.1];omega) X (by have:=HX.out.2.2.2.1;simp[←this]) ?_)
    | ((with_reducible show zOq (.load 85 _));refine AF rfl 85 _ rfl w2.heap.size 0 rfl H4.out.2.2 Tryz.underlying85 rfl BI (by rw[HE.out.2.1];omega) E (by have:=HE.out.2.1;simp[←this]) ?_))
   go_roundg (n-(k+1))
   case measure=>have:=HS.out.1;omega
   exact⟨k+1,c+1,by first|(simp;done)|(simp[hwk];done),by omega,by rw[HX.out.2.2.2.2.2,if_neg HEQ.out],by have:=HS.out.2.2.1;omega,by first|(simp;done)|(simp[hwc];done),H4.out.1⟩
 obtain rfl:k=n:=by omega
 have h1:decide ((k:Int)<(k:Int))=false:=decide_eq_false (by omega);have h2:¬(k:Int)<(k:Int):=by omega
 have hta:c=D8 l:=by rw[hc,List.take_of_length_le (by have:=HL.out.2.2;omega)]
 have HTA:=Lib.hid hta;clear hk hc hck hA hta;go_wp2;go_ret;exact⟨by rw[←HTA.out];rfl,H3.out.1.trans HS.out.2.2.2 (fun _=>fEq)⟩
theorem SD (hk:key.length=32) (hv:DK w v l) (hl:l.length≤256) (ht:t.isNode=false) (hte:∀e∈t.ents,e.1.length=32) (hnear:∀a b,t=.leaf a b→l.length≤common a key) :
 Calls Tryz.prog 56 #[.agg (AM (upD key l 0 t.dig)),.agg (AM key),.agg (Aj v (EC t))] w fun e w'=>e=.returned (.tuple #[.bool true,.int .i64 0])∧Adds w w':=by
 have hup:=fun w1 (a:Adds w w1)=>Wx hk (hv.adds a) hl ht hte
 obtain⟨kd,hkd,hkn,hk1⟩:=Ho ht;obtain⟨hNs,hN1⟩:=DT ht hte;have hvf:=hv;obtain⟨ao,cap,rfl,_,_⟩:=hvf;have hul:(upD key l 0 t.dig).length=32:=ME _ _ _ _ (Tr.Ee _);have heq:=fun w=>Fg 85 Tryz.underlying85 (upD key l 0 t.dig) (upD key l 0 t.dig) hul hul w
 simp only[decide_true] at heq;obtain⟨R,hR⟩:∃R,R=AM (upD key l 0 t.dig):=⟨_,rfl⟩
 have hRs:R.size=32:=by rw[hR,AN,hul]
 have hR1:∀v∈R.toList,v.oneCell'=true:=by rw[hR];exact Ah _
 obtain⟨n,hn⟩:∃n,n=l.length:=⟨_,rfl⟩
 have hn256:n≤256:=by omega
 obtain⟨Q,hQ⟩:∃Q,Q=Aj (.slice ao n cap) (EC t):=⟨_,rfl⟩
 have hQs:Q.size=130:=by rw[hQ];exact Ae hNs
 have hQ0:Q[0]?=some (.slice ao n cap):=by rw[hQ];exact Ei _ _
 have hQ1:Q[1]?=some (.int .u8 kd):=by rw[hQ];exact GR _ _ _ hkd
 obtain⟨K,hK⟩:∃K,K=AM key:=⟨_,rfl⟩
 have hKs:K.size=32:=by rw[hK,AN,hk]
 obtain⟨Z,hZ⟩:∃Z,Z=AM (List.replicate 32 0):=⟨_,rfl⟩
 have hzh:=Hs;have hZs:Z.size=32:=by rw[hZ];rfl
 rw[←hZ] at hzh;rw[←hn, ←hK, ←hQ, ←hR] at hup;rw[←hR] at heq;rw[←hn, ←hK, ←hQ, ←hR]
 have hleaf:t≠.nil→∃X,Q.extract 2 (2+32)=X∧X.size=32∧∀w,Calls Tryz.prog 141 #[.agg X,.agg K,.int .i64 (n:Int)] w fun e w'=>e=.returned (.bool true)∧Adds w w':=fun hne=>by
  obtain⟨a,b,rfl⟩:∃a b,t=.leaf a b:=by
   cases t with
   | nil=>exact absurd rfl hne
   | leaf a b=>exact⟨a,b,rfl⟩
   | node=>cases ht
  have ha:a.length=32:=hte (a,b) (List.mem_singleton.2 rfl);obtain⟨_,ka,_⟩:=DY (k:=1) ha (show(Tag.Aw b).length=32 from Tag.AV _ _) (c:=Nd.z32) (d:=Nd.z32) rfl rfl;refine⟨AM a,?_,by rw[AN,ha],fun w=>?_⟩
  · rw[hQ]
    exact Gc (.slice ao n cap) ka
  have h1:=SF a key ha hk n (by omega) w;rw[decide_eq_true (by rw[hn];exact hnear a b rfl), ←hK] at h1;exact h1
 have HU:=(hIq hup (aIq hleaf hk1))
 have HQ:=(hIq hQs (aIq hQ0 (aIq hQ1 C7.2.1)))
 have HK:=Lib.hid hKs;have HR:=(hIq hRs hR1)
 have HZ:=(hIq hzh hZs)
 clear hup hleaf hkd hk1 hNs hN1 hul hR hRs hR1 hn hQ hQs hQ0 hQ1 hK hKs hZ hzh hZs hk hv hl ht hte hnear;go_enter Tryz.func56,Tryz.ntmps56;go_upto_region 1 with fail;refine BQ (fun w1 hw1=>?_);have a1:Adds w w1:=by rw[hw1];exact(((Ch.refl _ _).alloc _).alloc _).alloc _
 obtain⟨B0,hB0⟩:∃B0,B0=w.heap.size:=⟨_,rfl⟩
 have r0:w1.heap[B0]?=some (.cells R 85 (0,0)):=by rw[hw1,hB0];exact AJ (AJ (heap_alloc_new _ _) _) _
 have r1:w1.heap[B0+1]?=some (.cells K 24 (0,0)):=by
  rw[hw1,hB0];refine AJ ?_ _;have:=heap_alloc_new (w.alloc (.cells R 85)) (.cells K 24);simpa using this
 have r2:w1.heap[B0+1+1]?=some (.cells Q 117 (0,0)):=by
  rw[hw1,hB0,Av];simp
 rw[←hB0];have H1:=(hIq a1 (aIq r0 (aIq r1 r2)))
 clear a1 r0 r1 r2 hw1 hB0
 go_wp2_with (first
  | fail
  | ((with_reducible show zOq (.load 24 _));refine AF rfl 24 _ rfl (B0+1) 0 rfl H1.out.2.2.1 Tryz.underlying24 rfl AW (by rw[HK.out];omega) K (by simp[←HK.out]) ?_)
  | ((with_reducible show zOq (.load 117 _));refine AF rfl 117 _ rfl (B0+1+1) 0 rfl H1.out.2.2.2 Tryz.underlying117 rfl HQ.out.2.2.2 (by rw[HQ.out.1];omega) Q (by have:=HQ.out.1;simp[←this]) ?_))
 refine(HU.out.1 _ H1.out.1).mono ?_;rintro e w2 ⟨rfl,a2⟩;have H2:=(hIq (H1.out.1.trans a2 (fun _=>fEq)) (aIq (a2.row H1.out.2.1 id) (aIq (a2.row H1.out.2.2.1 id) (a2.row H1.out.2.2.2 id))))
 clear a2
 go_upto_region 2 with(first
  | fail
  | ((with_reducible show zOq (.alloc 85));refine AI rfl 85 rfl (.agg Z) HZ.out.1 ?_;dsimp only[Value.cells];try simp only[World.size_alloc])
  | ((with_reducible show zOq (.store 85 _ _));refine AE rfl 85 _ _ rfl w2.heap.size 0 R rfl rfl (heap_alloc_new _ _) (by rw[BI,HR.out.1]) (by rw[HR.out.1,HZ.out.2];omega) HR.out.2 R (by rw[AK _ _ (by rw[Array.length_toList,Array.length_toList,HR.out.1,HZ.out.2])]) ?_))
 refine BQ (fun w3 hw3=>?_);have a3:Adds w2 w3:=by rw[hw3];exact((Ch.refl _ _).alloc _).setRow (.inr (Nat.le_refl _)) _
 have r3:w3.heap[w2.heap.size]?=some (.cells R 85 (0,0)):=by rw[hw3];exact AG (heap_alloc_new w2 (.cells Z 85)) R
 have H3:=(hIq (H2.out.1.trans a3 (fun _=>fEq)) (aIq (a3.row H2.out.2.1 id) (aIq (a3.row H2.out.2.2.1 id) (aIq (a3.row H2.out.2.2.2 id) r3))))
 have c0:=AH (a3.row H2.out.2.2.2 id) HQ.out.2.1;have c1:=AH (a3.row H2.out.2.2.2 id) HQ.out.2.2.1;clear a3 r3 hw3;by_cases hn0:t=.nil
 · have hkd0:¬kd=1:=fun e=>HU.out.2.2.1 e hn0
   have hkd1:(kd != 1)=true:=by simpa using hkd0
   clear hn0
   go_wp2_with (first
    | fail
    | ((with_reducible show zOq (.load 85 _));refine AF rfl 85 _ rfl w2.heap.size 0 rfl H3.out.2.2.2.2 Tryz.underlying85 rfl BI (by rw[HR.out.1];omega) R (by have:=HR.out.1;simp[←this]) ?_)
    | ((with_reducible show zOq (.load 85 _));refine AF rfl 85 _ rfl B0 0 rfl H3.out.2.1 Tryz.underlying85 rfl BI (by rw[HR.out.1];omega) R (by have:=HR.out.1;simp[←this]) ?_))
   go_ret2;exact⟨rfl,H3.out.1⟩
 obtain rfl:kd=1:=HU.out.2.2.2 hn0;obtain⟨X,hX1,hX2,hX3⟩:=HU.out.2.1 hn0;have HX:=(hIq hX1 (aIq hX2 hX3))
 clear hn0 hX1 hX2 hX3 hkn
 go_wp2_with (first
  | fail
  | ((with_reducible show zOq (.load 24 _));refine Ax (by first|rfl|(simp[Region.wanted];done)) 24 _ rfl (B0+1+1) 2 rfl H3.out.2.2.2.1 Tryz.underlying24 rfl AW (by rw[HQ.out.1];omega) X HX.out.1 ?_)
  | ((with_reducible show zOq (.load 24 _));refine Ax (by first|rfl|(simp[Region.wanted];done)) 24 _ rfl (B0+1) 0 rfl H3.out.2.2.1 Tryz.underlying24 rfl AW (by rw[HK.out];omega) K (by simp[←HK.out]) ?_))
 refine(HX.out.2.2 _).mono ?_;rintro e w4 ⟨rfl,a4⟩;have H4:=(hIq (H3.out.1.trans a4 (fun _=>fEq)) (aIq (a4.row H3.out.2.1 id) (a4.row H3.out.2.2.2.2 id)))
 clear a4 c0 c1;go_upto_region 5 with fail
 go_wp2_with (first
  | fail
  | ((with_reducible show zOq (.load 85 _));refine AF rfl 85 _ rfl w2.heap.size 0 rfl H4.out.2.2 Tryz.underlying85 rfl BI (by rw[HR.out.1];omega) R (by have:=HR.out.1;simp[←this]) ?_)
  | ((with_reducible show zOq (.load 85 _));refine AF rfl 85 _ rfl B0 0 rfl H4.out.2.1 Tryz.underlying85 rfl BI (by rw[HR.out.1];omega) R (by have:=HR.out.1;simp[←this]) ?_))
 go_ret2;exact⟨rfl,H4.out.1⟩
end
def Hdl (root:Int) (M:Nmd) (x:List UInt8) (hh er:Int):Prop:=(x = []∧hh=root∧er=0)∨(x ≠ []∧x∉Dn M∧hh=0∧er=7)∨(x ≠ []∧er=0∧∃p∈M,p.1=x∧hh=p.2.1)
def UK (w:World) (root:Int) (M:Nmd) (x:List UInt8) (e:Ending) (w':World):Prop:=∃hh er,e=.returned (.tuple #[.int .i64 hh,.int .i64 er])∧w=w'∧Hdl root M x hh er
theorem PF (x:List UInt8):(BS x).toList.isEmpty=decide (x = []):=by
 have h:=Mj x []
 have h0:(BS []).toList = []:=by
  unfold BS ByteArray.toList;unfold ByteArray.toList.loop;simp;exact fun h=>absurd h (Nat.lt_irrefl 0)
 rw[h0] at h;rw[←h];cases (BS x).toList<;>rfl
section
variable {w0 w w' : World} {d v s room tn : Nat} {G : Nat→Prop} {σ σ' : AD Nd} {root r : Int} {L L' : AQ} {M M' : Nmd}
theorem Fl (h:Dct w0 w d v s G room σ root L M tn) {x:List UInt8} (hx:x.length≤maxLen):Calls Tryz.prog 46 #[.pointer (some ⟨d,0,none⟩),.string (BS x)] w (UK w root M x):=by
 have hr:=h.vs.root hx;have hdn:=FO h;have c0:w.cell? ⟨d,0,none⟩=some (.pointer (some ⟨v,0,none⟩)):=AH h.cell rfl;have c2:w.cell? ⟨d,2,none⟩=some (.int .i64 root):=AH h.cell rfl;have hem:=PF x;rw[CA] at hr;obtain⟨S,hS⟩:∃S,S=BS x:=⟨_,rfl⟩
 rw[←hS] at hr hem ⊢;have HN:=(hIq hdn hr)
 have HH:=Lib.hid h;clear hdn hr h hS;by_cases h0:x = []
 · rw[decide_eq_true h0] at hem
   have H0:=Lib.hid h0;clear h0;go_enter Tryz.func46,Tryz.ntmps46;go_wp2_with fail;refine HN.out.1.mono ?_;rintro e w1 ⟨rfl,rfl⟩;go_wp2;go_ret2;exact⟨root,0,rfl,rfl,.inl ⟨H0.out,rfl,rfl⟩⟩
 rw[decide_eq_false h0] at hem;have H0:=Lib.hid h0;clear h0;by_cases hm:x∈Dn M
 · rw[if_pos hm] at HN
   have HM:=Lib.hid hm;clear hm;go_enter Tryz.func46,Tryz.ntmps46;go_wp2_with fail;refine HN.out.1.mono ?_;rintro e w1 ⟨rfl,rfl⟩;go_wp2_with fail;refine HN.out.2.mono ?_;rintro e w1 ⟨rfl,rfl⟩;go_wp2;go_ret2;obtain⟨p,hp,e⟩:=Il HM.out;refine⟨_,0,rfl,rfl,.inr (.inr ⟨H0.out,rfl,p,hp,e,?_⟩)⟩;rw[←e];exact FJ HH.out.nd hp
 rw[if_neg hm] at HN;have HM:=Lib.hid hm;clear hm;go_enter Tryz.func46,Tryz.ntmps46;go_wp2_with fail;refine HN.out.1.mono ?_;rintro e w1 ⟨rfl,rfl⟩;go_wp2_with fail;refine HN.out.2.mono ?_;rintro e w1 ⟨rfl,rfl⟩;go_wp2;go_ret2;exact⟨0,7,rfl,rfl,.inr (.inl ⟨H0.out,HM.out,rfl,rfl⟩)⟩
def Td (w:World) (root:Int) (L:AQ) (M:Nmd) (x:List UInt8) (e:Ending) (w':World):Prop :=
 ∃hh er H,e=.returned (.tuple #[.agg (AM H),.int .i64 er])∧Adds w w'∧Hdl root M x hh er∧H.length=32∧(er=0→∀Lx,(hh,Lx)∈(root,L)::Ir M→H=(tree 256 Lx).dig)∧(er≠0→H=List.replicate 32 0)
theorem Tb (h:Dct w0 w d v s G room σ root L M tn) {x:List UInt8} (hx:x.length≤maxLen):Calls Tryz.prog 38 #[.pointer (some ⟨d,0,none⟩),.string (BS x)] w (Td w root L M x):=by
 have hh:=fun w1 (a:Adds w w1)=>Fl (h.adds a) hx
 have hdg:∀(n:Int) (w1:World),Adds w w1→Calls Tryz.prog 100 #[.pointer (some ⟨s,0,none⟩),.int .i64 n] w1 fun e w'=>e=.returned (.agg (AM (Ar σ n)))∧Adds w1 w':=fun n w1 a=>by
  obtain⟨F,hF⟩:=(h.adds a).at;exact Ea hF n
 have hdl:∀n,(Ar σ n).length=32:=fun n=>by
  obtain⟨F,hF⟩:=h.at;exact hF.AV n
 obtain⟨S,hS⟩:∃S,S=BS x:=⟨_,rfl⟩
 rw[←hS] at hh ⊢;have hcell:=fun w1 (a:Adds w w1)=>(h.adds a).cell
 have HN:=(hIq hh (aIq hdg (aIq hcell hdl)))
 have HH:=Lib.hid h;clear hh hdg hcell hdl h hS;go_enter Tryz.func38,Tryz.ntmps38
 go_upto_region 1 with(first
  | fail
  | ((with_reducible show zOq (.alloc 85));refine AI rfl 85 rfl (.agg (AM (List.replicate 32 0))) Hs ?_;dsimp only[Value.cells];try simp only[World.size_alloc]))
 refine BQ (fun w1 hw1=>?_);have a1:Adds w w1:=by rw[hw1];exact(Ch.refl _ _).alloc _
 have r1:w1.heap[w.heap.size]?=some (.cells (AM (List.replicate 32 0)) 85 (0,0)):=by rw[hw1];exact heap_alloc_new _ _
 have A1:=(hIq a1 r1)
 clear a1 r1 hw1;go_wp2_with fail;refine(HN.out.1 _ A1.out.1).mono ?_;rintro e w2 ⟨hh,er,rfl,rfl,hd⟩;have HD:=Lib.hid hd;by_cases he:er=0
 · have HE:=Lib.hid he
   subst he;clear hd;have c1:w1.cell? ⟨d,1,none⟩=some (.pointer (some ⟨s,0,none⟩)):=AH (HN.out.2.2.1 _ A1.out.1) rfl;obtain⟨K,hK⟩:∃K,K=AM (Ar σ hh):=⟨_,rfl⟩
   have hdg:=HN.out.2.1 hh _ A1.out.1;rw[←hK] at hdg;have HK:=(hIq hdg (aIq (show K.size=32 by rw[hK,AN,HN.out.2.2.2]) (aIq (show ∀v∈K.toList,v.oneCell'=true by rw[hK];exact Ah _) hK)))
   clear hK hdg;go_wp2_with fail;refine HK.out.1.mono ?_;rintro e w2 ⟨rfl,a2⟩;have H2:=(hIq (A1.out.1.trans a2 (fun _=>fEq)) (a2.row A1.out.2 id))
   clear a2 c1
   go_wp2_with (first
    | fail
    | ((with_reducible show zOq (.store 85 _ _));refine AE rfl 85 _ _ rfl w.heap.size 0 K rfl rfl H2.out.2 (by rw[BI,HK.out.2.1]) (by rw[HK.out.2.1];exact Nat.le_of_eq (Nat.zero_add _)) HK.out.2.2.1 K (by rw[AK _ _ (by rw[Array.length_toList,Array.length_toList,HK.out.2.1];rfl)]) ?_))
   refine Ak (p:=4) (u:=5) rfl rfl (AG H2.out.2 _) Tryz.underlying85 rfl (by rw[BI,HK.out.2.1]) rfl ⟨hh,0,Ar σ hh,by rw[←HK.out.2.2.2];rfl,H2.out.1.setRow (.inr (Nat.le_refl _)) _,HD.out,HN.out.2.2.2 hh,fun _ Lx hm=>(HH.out.rts.db hm).digest,fun h=>absurd rfl h⟩
 clear hd
 go_wp2_with (first
  | fail
  | ((with_reducible show zOq (.store 85 _ _));refine AE rfl 85 _ _ rfl w.heap.size 0 (AM (List.replicate 32 0)) rfl rfl A1.out.2 (by rw[BI];rfl) (Nat.le_of_eq (Nat.zero_add _)) (Ah _) (AM (List.replicate 32 0)) (by rw[AK _ _ rfl]) ?_))
 refine Ak (p:=4) (u:=5) rfl rfl (AG A1.out.2 (AM (List.replicate 32 0))) Tryz.underlying85 rfl (by rw[BI];rfl) rfl ⟨hh,er,List.replicate 32 0,rfl,A1.out.1.setRow (.inr (Nat.le_refl _)) _,HD.out,rfl,fun h=>absurd h he,fun _=>rfl⟩
end
section
variable {w0 w w' : World} {d v s room tn : Nat} {G : Nat→Prop} {σ σ' : AD Nd} {root r : Int} {L L' : AQ} {M M' : Nmd}
theorem Dct.Vk (h:Dct w0 w d v s G room σ root L M tn) {p:List UInt8×Int×AQ} (hp:p∈M) (hv:Vs w0 w' v s (Hi σ p.2.1) (ED (Iy M p.1)) (fun k=>k=d∨G k)) (hb:But (fun k=>k=d∨G k) w w') :
 DStep w0 w w' d v s G room σ (Hi σ p.2.1) root L (Iy M p.1) tn 0:=by
 have hr:BH σ ((p.2.1,p.2.2)::(root,L)::Ir (Iy M p.1)):=h.rts.perm (((Mz h.nd hp).cons (root,L)).trans (List.Perm.swap ..));have hc:=hb.row h.cell (.inl rfl);have ht:=h.total;by_cases h0:p.2.1=0
 · have e0:Hi σ p.2.1=σ:=by unfold Hi;rw[if_pos h0]
   rw[e0] at hv ⊢;rw[h0] at hr;exact⟨⟨hc,hv,hr.less,h.room,by omega,h.base⟩,hb.less (fun _ h=>.inr h),Nat.le_refl _⟩
 have e0:Hi σ p.2.1=(Ai σ p.2.1).2.2:=by unfold Hi;rw[if_neg h0]
 rw[e0] at hv ⊢;obtain⟨g0,g1,g2,g3,g4⟩:=hr.drop h0;exact⟨⟨hc,hv,g1,g4.trans h.room,by omega,h.base⟩,hb.less (fun _ h=>.inr h),g2⟩
def QS (w0 w:World) (d v s:Nat) (G:Nat→Prop) (room:Nat) (σ:AD Nd) (root:Int) (L:AQ) (M:Nmd) (tn:Nat) (x:List UInt8) (e:Ending) (w':World):Prop :=
 ∃σ' M' er,e=.returned (.int .i64 er)∧DStep w0 w w' d v s G room σ σ' root L M' tn 0∧((x∉Dn M∧er=7∧M'=M)∨(x∈Dn M∧er=0∧M'=Iy M x))
theorem RC (h:Dct w0 w d v s G room σ root L M tn) {x:List UInt8} (hx:x.length≤maxLen):Calls Tryz.prog 35 #[.pointer (some ⟨d,0,none⟩),.string (BS x)] w (QS w0 w d v s G room σ root L M tn x):=by
 have hdn:=Mb h;have c0:w.cell? ⟨d,0,none⟩=some (.pointer (some ⟨v,0,none⟩)):=AH h.cell rfl;by_cases hm:x∈Dn M
 · obtain⟨p,hp,hpx⟩:=Il hm
   have hcut:=h.vs.cut hx (by rw[CA];exact hm) (root:=p.2.1) (by rw[←hpx];exact FJ h.nd hp);rw[SQ] at hcut;obtain⟨cn,hcn⟩:∃cn,cn=(if p.2.1=0 then 0 else (Ai σ p.2.1).1):=⟨_,rfl⟩
   rw[←hcn] at hcut;clear hcn;obtain⟨S,hS⟩:∃S,S=BS x:=⟨_,rfl⟩
   rw[←hS] at hcut ⊢;have HN:=(hIq hdn hcut)
   have HH:=(hIq h (aIq hm (aIq hp hpx)))
   clear hdn hcut h hm hp hpx hS;go_enter Tryz.func35,Tryz.ntmps35;go_wp2_with fail;refine HN.out.1.mono ?_;rintro e w1 ⟨rfl,rfl⟩;go_wp2_with fail;refine HN.out.2.mono ?_;rintro e w1 ⟨rfl,hv,hb⟩;have H1:=(hIq hv hb)
   clear hv hb c0;go_wp2;go_ret;have hd:=HH.out.1.Vk HH.out.2.2.1 (by rw[HH.out.2.2.2];exact H1.out.1) H1.out.2;rw[HH.out.2.2.2] at hd;exact⟨_,_,0,rfl,hd,.inr ⟨HH.out.2.1,rfl,rfl⟩⟩
 have hcut:=h.vs.Ww hx (by rw[CA];exact hm);obtain⟨S,hS⟩:∃S,S=BS x:=⟨_,rfl⟩
 rw[←hS] at hcut ⊢;have HN:=(hIq hdn hcut)
 have HH:=(hIq h hm)
 clear hdn hcut h hm hS;go_enter Tryz.func35,Tryz.ntmps35;go_wp2_with fail;refine HN.out.1.mono ?_;rintro e w1 ⟨rfl,rfl⟩;go_wp2_with fail;refine HN.out.2.mono ?_;rintro e w1 ⟨rfl,rfl⟩;go_wp2;go_ret;exact⟨σ,M,7,rfl,HH.out.1.stay (Ch.refl _ _) 0,.inl ⟨HH.out.2,rfl,rfl⟩⟩
theorem JQ {R:List (Int×AQ)} (h:BH σ R) {p:Int×AQ} (hp:p∈R) (h0:p.1=0):BH σ (p::R) :=
 ⟨h.good,fun k hk=>by rw[h.held k hk,DQ p,if_neg (fun e=>hk (e.trans h0))];rfl,fun q hq=>(List.mem_cons.1 hq).elim (fun e=>h.rep q (by rw[e];exact hp)) (h.rep q),
  fun q hq=>(List.mem_cons.1 hq).elim (fun e=>h.nodup q (by rw[e];exact hp)) (h.nodup q),fun q hq=>(List.mem_cons.1 hq).elim (fun e=>h.len q (by rw[e];exact hp)) (h.len q)⟩
def TD (w0 w:World) (d v s:Nat) (G:Nat→Prop) (room:Nat) (σ:AD Nd) (L:AQ) (M:Nmd) (tn:Nat) (x:List UInt8) (e:Ending) (w':World):Prop :=
 ∃σ' r' L' er,e=.returned (.int .i64 er)∧DStep w0 w w' d v s G room σ σ' r' L' M tn 0∧((x∉Dn M∧er=7∧L'=L)∨(er=0∧∃p∈M,p.1=x∧L'=p.2.2))
structure Mid (w0 w wx:World) (d v s:Nat) (G:Nat→Prop) (room:Nat) (σ σ1:AD Nd) (M:Nmd) (R:List (Int×AQ)) (tn:Nat):Prop where
 vs:Vs w0 wx v s σ1 (ED M) (fun k=>k=d∨G k)
 but:But (fun k=>k=d∨G k) w wx
 rts:BH σ1 R
 room:σ1.room=room
 total:Store.total σ1≤tn
 live:Store.live σ1≤Store.live σ
theorem MC (h:Dct w0 w d v s G room σ root L M tn) {x:List UInt8} (hx:x.length≤maxLen) (htn:tn≤500000000):Calls Tryz.prog 43 #[.pointer (some ⟨d,0,none⟩),.string (BS x)] w (TD w0 w d v s G room σ L M tn x):=by
 have hdn:=Mb h;have c0:w.cell? ⟨d,0,none⟩=some (.pointer (some ⟨v,0,none⟩)):=AH h.cell rfl;have c1:w.cell? ⟨d,1,none⟩=some (.pointer (some ⟨s,0,none⟩)):=AH h.cell rfl;have hrt:=h.vs.root hx;rw[CA] at hrt;obtain⟨S,hS⟩:∃S,S=BS x:=⟨_,rfl⟩
 rw[←hS] at hrt ⊢;by_cases hm:x∈Dn M
 · obtain⟨p,hp,hpx⟩:=Il hm
   rw[if_pos hm, ←hpx,FJ h.nd hp] at hrt;obtain⟨n,hn⟩:∃n,n=p.2.1:=⟨_,rfl⟩
   rw[←hn] at hrt;have HN:=(hIq hdn hrt)
   have HH:=(hIq h (aIq hp (aIq hpx (aIq hn htn))))
   clear hdn hrt h hm hp hpx hn hS;have hmem:(n,p.2.2)∈(root,L)::Ir M:=List.mem_cons_of_mem _ (by rw[HH.out.2.2.2.1];exact List.mem_map_of_mem (f:=fun p:List UInt8×Int×AQ=>(p.2.1,p.2.2)) HH.out.2.1);have HM:=Lib.hid hmem;clear hmem;go_enter Tryz.func43,Tryz.ntmps43;go_wp2_with fail;refine HN.out.1.mono ?_;rintro e w1 ⟨rfl,rfl⟩;go_wp2_with fail;refine HN.out.2.mono ?_;rintro e w1 ⟨rfl,rfl⟩;go_upto_if 28 with fail;go_cut [8] (fun s8 wx=>∃σ1,Mid w0 w wx d v s G room σ σ1 M ((n,p.2.2)::(root,L)::Ir M) (tn+1))
   case first =>
    by_cases h0:n=0
    · have H0:=Lib.hid h0
      subst h0;go_wp2;go_meet;exact⟨σ,HH.out.1.vs,Ch.refl _ _,JQ HH.out.1.rts HM.out rfl,HH.out.1.room,Nat.le_succ_of_le HH.out.1.total,Nat.le_refl _⟩
    obtain⟨m,ho,hst⟩:=HH.out.1.vs.step;have hhd:=ho.hold n;have hpm:((root,L)::Ir M).Perm ((n,p.2.2)::((root,L)::Ir M).erase (n,p.2.2)):=List.perm_cons_erase HM.out;obtain⟨g0,g1,g2,g3,g4⟩:=(HH.out.1.rts.perm hpm).hold h0 (by have:=HH.out.1.total;have:=HH.out.2.2.2.2;omega);rw[g0] at hhd;have HO:=(hIq hhd (aIq (@hst) (aIq (g1.perm (hpm.symm.cons _)) (aIq g2 (aIq g3 g4)))))
    clear ho hst hhd hpm g0 g1 g2 g3 g4 c0;go_wp2_with fail;refine HO.out.1.mono ?_;rintro e w2 ⟨rfl,o2,b2⟩;obtain⟨v2,b2'⟩:=HO.out.2.1 o2 b2;have H2:=(hIq v2 b2')
    clear o2 b2 v2 b2';go_wp2;go_meet;exact⟨_,H2.out.1,H2.out.2,HO.out.2.2.1,HO.out.2.2.2.2.2.trans HH.out.1.room,by have:=HO.out.2.2.2.2.1;have:=HH.out.1.total;omega,Nat.le_of_eq HO.out.2.2.2.1⟩
   obtain⟨σ1,hmid⟩:=hcut;have hrow:=hmid.but.row HH.out.1.cell (.inl rfl);clear c0 c1;have c2:wc.cell? ⟨d,2,none⟩=some (.int .i64 root):=AH hrow rfl;have HMD:=(hIq hmid hrow)
   clear hmid hrow;go_upto_if 42 with fail;go_cut [] (fun wy=>∃σ2,Mid w0 w wy d v s G room σ σ2 M ((n,p.2.2)::Ir M) (tn+1))
   case first =>
    by_cases h0:root=0
    · have H0:=Lib.hid h0
      subst h0;go_wp2;go_meet;exact⟨σ1,HMD.out.1.vs,HMD.out.1.but,(HMD.out.1.rts.perm (List.Perm.swap ..)).less,HMD.out.1.room,HMD.out.1.total,HMD.out.1.live⟩
    obtain⟨m,ho,hst⟩:=HMD.out.1.vs.step;have hdr:=fun w1 (a:Adds wc w1)=>(ho.adds a).drop root
    obtain⟨g0,g1,g2,g3,g4⟩:=(HMD.out.1.rts.perm (List.Perm.swap ..)).drop h0;have HO:=(hIq hdr (aIq (@hst) (aIq g1 (aIq g2 (aIq g3 g4)))))
    clear ho hst hdr g0 g1 g2 g3 g4 c2;go_wp2;refine AO (fun w0=>w0.heap[d]?=some (.cells (Mx v s root) 97 (0,0))) 9 [(0,false),(1,false),(2,false),(3,false),(4,false),(5,false),(6,false),(7,false),(8,true)] (by kernel_rfl) (by kernel_rfl) ?_ ?_
    · exact AP HMD.out.2
    iterate 3
     iterate 1 refine plan_look rfl rfl (fun w0 hS=>(by go_simp;try rfl)) ?_
     simp only[Act.put,nAq,nBq,nCq]
    refine plan_look (v:=.pointer (some ⟨s,0,none⟩)) rfl rfl (fun w0 hS=>(by have e0:w0.cell? ⟨d,1,none⟩=some (.pointer (some ⟨s,0,none⟩)):=AH hS rfl;clear hS;go_simp;try rfl)) ?_;simp only[Act.put,nAq,nBq,nCq]
    iterate 3
     iterate 1 refine plan_look rfl rfl (fun w0 hS=>(by go_simp;try rfl)) ?_
     simp only[Act.put,nAq,nBq,nCq]
    refine plan_look (v:=.int .i64 root) rfl rfl (fun w0 hS=>(by have e0:w0.cell? ⟨d,2,none⟩=some (.int .i64 root):=AH hS rfl;clear hS;go_simp;try rfl)) ?_;simp only[Act.put,nAq,nBq,nCq];refine Aa rfl ?_;go_wp2_with fail;refine(HO.out.1 _ (Ch.refl _ _).drew).mono ?_;rintro e w3 ⟨rfl,o3,b3⟩;obtain⟨v3,c3⟩:=HO.out.2.1 o3 ((Adds.but (Ch.refl _ _).drew).then b3);have r3:=c3.row HMD.out.2 (.inl rfl);have H3:=(hIq v3 (aIq c3 r3))
    clear o3 b3 v3 c3 r3;dsimp only;go_step;refine wpList_nil ?_;change _∧_;refine⟨H3.out.2.2,?_⟩;refine Ad ?_;simp only[List.drop_succ_cons,List.drop_zero];go_wp2;refine NoPanic.normal ?_;go_wp2;go_meet;exact⟨_,H3.out.1,HMD.out.1.but.then H3.out.2.1,HO.out.2.2.1,HO.out.2.2.2.2.2.trans HMD.out.1.room,Nat.le_trans HO.out.2.2.2.2.1 HMD.out.1.total,Nat.le_trans HO.out.2.2.2.1 HMD.out.1.live⟩
   obtain⟨σ2,hmid⟩:=hcut;have hrow:=hmid.but.row HH.out.1.cell (.inl rfl);clear c2;have f3:=Al hrow 2;have l3:=Ao hrow;have c2:wc.cell? ⟨d,2,none⟩=some (.int .i64 root):=AH hrow rfl;have HM2:=(hIq hmid hrow)
   clear hmid hrow;go_wp2;go_ret;have hdw:=Dct.write (tn:=tn+60000) HM2.out.2 HM2.out.1.vs HM2.out.1.rts HM2.out.1.room (by have:=HM2.out.1.total;omega) HH.out.1.base;exact⟨σ2,n,p.2.2,0,rfl,⟨hdw.1,(HM2.out.1.but.less (fun _ h=>.inr h)).then hdw.2,HM2.out.1.live⟩,.inr ⟨rfl,p,HH.out.2.1,HH.out.2.2.1,rfl⟩⟩
 rw[if_neg hm] at hrt;have HN:=(hIq hdn hrt)
 have HH:=(hIq h hm)
 clear hdn hrt h hm hS;go_enter Tryz.func43,Tryz.ntmps43;go_wp2_with fail;refine HN.out.1.mono ?_;rintro e w1 ⟨rfl,rfl⟩;go_wp2_with fail;refine HN.out.2.mono ?_;rintro e w1 ⟨rfl,rfl⟩;go_wp2;go_ret;exact⟨σ,root,L,7,rfl,HH.out.1.stay (Ch.refl _ _) 0,.inl ⟨HH.out.2,rfl,rfl⟩⟩
end
end Go.Proofs.YtooijgcildbnlaaGreat.Law15
