/- Laws of the layers below. -/
import Derived.Test.YtngbdbpofifimaaGreatQm13
import Derived.Deep.CutRange
import Derived.Deep.CutBlock
set_option maxHeartbeats 3200000
set_option maxRecDepth 100000
set_option linter.unusedVariables false
namespace Go.Proofs.YtngbdbpofifimaaGreat.Store
open Go.RowKit Go.Proofs.YtngbdbpofifimaaGreat.ShaW Go.Proofs.YtngbdbpofifimaaGreat.Path
theorem U5 {l r:Nd} (hl:l.Ok) (hr:r.Ok) (d left right:Int) (hd0:0≤d) (hd1:d≤255) (w:World) :
 Calls Tryz.prog 250 #[.int .i64 d,.int .i64 left,.int .i64 right,l.enc,r.enc] w fun e w'=>e=.returned (.bool (fitsB d left right l r))∧AN w w':=by
 unfold fitsB;by_cases h0:left=0
 · rw[if_pos h0]
   by_cases h1:right=0
   · rw[if_pos h1];exact QN hl hr d left right hd0 hd1 h0 h1 w
   rw[if_neg h1];by_cases hk:r.kind=2
   · rw[decide_eq_true hk,Bool.true_and];exact Oi hl hr d left right hd0 hd1 h0 h1 hk w
   rw[decide_eq_false hk,Bool.false_and];exact Kt hl hr d left right hd0 hd1 h0 h1 hk w
 rw[if_neg h0];by_cases h1:right=0
 · rw[if_pos h1]
   by_cases hk:l.kind=2
   · rw[decide_eq_true hk,Bool.true_and];exact Qw hl hr d left right hd0 hd1 h0 h1 hk w
   rw[decide_eq_false hk,Bool.false_and];exact MS hl hr d left right hd0 hd1 h0 h1 hk w
 rw[if_neg h1];cases hk:CO l d 0 with
 | false=>rw[Bool.false_and];exact N5 hl hr d left right hd0 hd1 h0 h1 hk w
 | true =>
  rw[Bool.true_and];cases hm:CO r d 1 with
  | false=>rw[Bool.false_and];exact Mh hl hr d left right hd0 hd1 h0 h1 hk hm w
  | true=>rw[Bool.true_and];exact QD hl hr d left right hd0 hd1 h0 h1 hk hm w
theorem Qg {w:World} {s:Nat} {F:Nat→Prop} {σ:AG Nd} (h:At w s F σ) (d l r:Int) (hd:d<0) :
 Calls Tryz.prog 206 #[.pointer (some ⟨s,0,none⟩),.int .i64 d,.int .i64 l,.int .i64 r] w fun e w'=>e=.returned (.tuple #[.int .i64 0,.int .i64 2])∧w=w':=by
 obtain⟨a,G,h1,_⟩:=h;have HR:=Lib.hid h1;clear h1;go_enter Tryz.func206,Tryz.ntmps206;go_wp2_with fail;refine(An HR.out).mono ?_;rintro e w1 ⟨rfl,rfl⟩;go_wp2;go_ret2;exact⟨rfl,rfl⟩
theorem PO {w:World} {s:Nat} {F:Nat→Prop} {σ:AG Nd} (h:At w s F σ) (d l r:Int) (hd:255<d) :
 Calls Tryz.prog 206 #[.pointer (some ⟨s,0,none⟩),.int .i64 d,.int .i64 l,.int .i64 r] w fun e w'=>e=.returned (.tuple #[.int .i64 0,.int .i64 2])∧w=w':=by
 obtain⟨a,G,h1,_⟩:=h;have HR:=Lib.hid h1;clear h1;have h0:¬d<0:=by omega
 have h00:0≤d:=by omega
 go_enter Tryz.func206,Tryz.ntmps206;go_wp2_with fail;refine(An HR.out).mono ?_;rintro e w1 ⟨rfl,rfl⟩;go_wp2;go_ret2;exact⟨rfl,rfl⟩
def XF (w:World) (bL bR bS:Nat) (σ:AG Nd) (l r:Int) (Z:Array Value) (k:Nat) (wx:World):Prop :=
 wx.heap[bL]?=some (.cells (if 1≤k then (nd σ l).cells else Z) 168 (0,0))∧wx.heap[bR]?=some (.cells (if 2≤k then (nd σ r).cells else Z) 168 (0,0)) ∧
  wx.heap[bS]?=some (.cells #[.int .i64 l,.pointer (some ⟨bL,0,none⟩),.int .i64 r,.pointer (some ⟨bR,0,none⟩)] 342 (0,0))∧AN w wx∧(1≤k→¬Bf σ l)∧(2≤k→¬Bf σ r)
theorem TG {w:World} {s:Nat} {F:Nat→Prop} {σ:AG Nd} (h:At w s F σ) (d l r:Int) (hd0:0≤d) (hd1:d≤255) :
 Calls Tryz.prog 206 #[.pointer (some ⟨s,0,none⟩),.int .i64 d,.int .i64 l,.int .i64 r] w fun e w'=>e=.returned (.tuple #[.int .i64 (Ag σ d l r).1,.int .i64 (Ag σ d l r).2.1])∧BF w w' s F (Ag σ d l r).2.2:=by
 have hA:=h;obtain⟨a,G,h1,h2,h3,h4,h5,h6⟩:=h;have hFw:∀k,F k→k<w.heap.size:=h6;obtain⟨Z,hZ⟩:∃Z,Z=Nd.zero.cells:=⟨_,rfl⟩
 have hz:=Ts;have hZs:Z.size=103:=by rw[hZ];rfl
 have hZ1:∀v∈Z.toList,v.oneCell'=true:=by rw[hZ];exact Nd.cells_one Nd.BP
 rw[←hZ] at hz;have HR:=Lib.hid h1;have HA:=Lib.hid hA;have HF:=Lib.hid hFw;have HZ:=(hIq hz hZs)
 have HZZ:=(hIq hZ hZ1)
 have hbz:Tryz.prog.built 168 []=some Z:=by rw[hZ];kernel_rfl
 have HBZ:=Lib.hid hbz;clear h1 h2 h3 h4 h5 h6 hA hFw hz hZs hZ hZ1 hbz;have hn0:¬d<0:=by omega
 have hn1:¬255<d:=by omega
 go_enter Tryz.func206,Tryz.ntmps206;go_wp2_with fail;refine(An HR.out).mono ?_;rintro e w1 ⟨rfl,rfl⟩;have aL:=Df w Z Z;have aR:=row_setRow (Cx w Z Z) (by omega:w.heap.size+1≠w.heap.size) Z;have AL:=Lib.hid aL;have AR:=Lib.hid aR;clear aL aR
 go_wp2_with (first
  | ((with_reducible show zOq (.build 168 _));refine Ax rfl 168 rfl Z HBZ.out ?_)
  | ((with_reducible show zOq (.alloc 168));refine AO rfl 168 rfl (.agg Z) HZ.out.1 ?_;dsimp only[Value.cells];try simp only[World.size_alloc])
  | ((with_reducible show zOq (.store 168 (.tmp 10) _));refine AI rfl 168 _ _ rfl w.heap.size 0 Z rfl rfl AL.out (by rw[BW,HZ.out.2]) (by omega) HZZ.out.2 Z (by rw[AT _ _ rfl]) ?_)
  | ((with_reducible show zOq (.store 168 (.tmp 11) _));refine AI rfl 168 _ _ rfl (w.heap.size+1) 0 Z rfl rfl AR.out (by rw[BW,HZ.out.2]) (by omega) HZZ.out.2 Z (by rw[AT _ _ rfl]) ?_))
 go_loopg [35] 2 (fun g s35 wr=>∃k:Nat,k≤2∧g=2-k∧s35=.int .i64 k∧XF w w.heap.size (w.heap.size+1) (w.heap.size+1+1) σ l r Z k wr)
 case atStart =>
  refine⟨0,by omega,rfl,rfl,?_,?_,?_,?_,fun h=>by omega,fun h=>by omega⟩
  · rw[if_neg (by omega)];exact AQ (row_setRow (AK AL.out Z) (by omega) _) _
  · rw[if_neg (by omega)];exact AQ (AK AR.out Z) _
  · have h0:=heap_alloc_new ((((w.alloc (.cells Z 168)).alloc (.cells Z 168)).setRow w.heap.size Z).setRow (w.heap.size+1) Z) (.cells #[.int .i64 l,.pointer (some ⟨w.heap.size,0,none⟩),.int .i64 r,.pointer (some ⟨w.heap.size+1,0,none⟩)] 342)
    simpa using h0
  exact((((Ch.refl _ _).alloc _).alloc _).setRow (.inr (Nat.le_refl _)) _).setRow (.inr (Nat.le_succ _)) _ |>.alloc _
 obtain⟨k,hk,rfl,rfl,hrL,hrR,hrS,hAd,hbl,hbr⟩:=hrel;have hAr:=HA.out.adds hAd;obtain⟨c0,c1,c2,c3,fz,hltS⟩:=Fw hrS;have hsz:=hAd.size;rcases (by omega:k=0∨k=1∨k=2) with rfl|rfl|rfl
 · have hmine:wr.heap[w.heap.size]?=some (.cells Z 168 (0,0)):=by have h0:=hrL;rw[if_neg (by omega)] at h0;exact h0
   have hoth:wr.heap[w.heap.size+1]?=some (.cells Z 168 (0,0)):=by have h0:=hrR;rw[if_neg (by omega)] at h0;exact h0
   have HS:=(hIq hmine (aIq hoth (aIq hrS (aIq hAd (aIq hbl hbr)))))
   clear hrL hrR hrS hAd hbl hbr hmine hoth;by_cases hx:l=0
   · subst hx
     clear hAr;go_wp2;go_roundg 1
     case measure=>omega
     refine⟨1,by omega,rfl,by go_num,?_⟩;obtain⟨q1,q2,q3,q4,q5,q6⟩:=HS.out;have hz0:(nd σ 0).cells=Z:=HZZ.out.1.symm;refine⟨?_,?_,AQ q3 _,q4.alloc _,fun _ hb=>hb.1 rfl,fun h=>by omega⟩
     · rw[if_pos (by omega),hz0];exact AQ q1 _
     rw[if_neg (by omega)];exact AQ q2 _
   have e1:(l == 0)=false:=by simpa using hx
   have e2:decide (l=0)=false:=by simpa using hx
   have hAr1:=hAr.adds ((Ch.refl (fun _=>False) wr).alloc (.cells #[.int .i64 l,.pointer (some ⟨w.heap.size,0,none⟩)] 342));have hok:=hAr1.ok l;have hgt:=Cu hAr1 l;obtain⟨N,Z',hN,hn,hz⟩:=told hAr1 l;rw[←hN] at hgt;have k0:N[102]?=some (.int .i64 (nd σ l).held):=by rw[hN];exact Nd.GY hok
   have HN:=Lib.hid hn;have HNN:=Lib.hid hN;have HXX:=Lib.hid hx;clear hAr hAr1 hok hN hn hz;cases hb:has σ l with
   | false =>
    rw[hb] at hgt
    have hin:Ag σ d l r=(0,7,σ):=by
     unfold Ag;rw[if_neg (by omega),if_pos (.inl ⟨hx,.inl hb⟩)]
    have HIN:=Lib.hid hin;have HG:=Lib.hid hgt;clear hgt hb hin hx k0;go_wp2_with fail;refine HG.out.mono ?_;rintro e w4 ⟨rfl,hc4⟩;have C4:=Lib.hid hc4;clear hc4
    go_wp2_with (first
     | ((with_reducible show zOq (.alloc 168));refine AO rfl 168 rfl (.agg Z) HZ.out.1 ?_;dsimp only[Value.cells];try simp only[World.size_alloc])
     | ((with_reducible show zOq (.store 168 (.tmp 14) _));go_must (refine AI rfl 168 _ _ rfl w4.heap.size 0 N rfl rfl (heap_alloc_new _ _) (by rw[BW,HN.out.1]) (by rw[HN.out.1,HZ.out.2];omega) HN.out.2 N (by rw[AT _ _ (by rw[Array.length_toList,Array.length_toList,HN.out.1,HZ.out.2])]) ?_)))
    go_ret2;rw[HIN.out];refine⟨rfl,BF.same HA.out ?_⟩;have h45:=(HS.out.2.2.2.1.alloc (.cells #[.int .i64 l,.pointer (some ⟨w.heap.size,0,none⟩)] 342)).trans C4.out (fun _=>fEq);exact(h45.alloc _).setRow (.inr h45.size) _
   | true =>
    rw[hb] at hgt;by_cases h0:(nd σ l).held=0
    · rw[h0] at k0
      have hin:Ag σ d l r=(0,7,σ):=by
       unfold Ag;rw[if_neg (by omega),if_pos (.inl ⟨hx,.inr h0⟩)]
      have HIN:=Lib.hid hin;have HG:=Lib.hid hgt;clear hgt hb hin hx h0;go_wp2_with fail;refine HG.out.mono ?_;rintro e w4 ⟨rfl,hc4⟩;have k1:=AH (AK (heap_alloc_new w4 (.cells Z 168)) N) k0;have C4:=Lib.hid hc4;clear hc4 k0
      go_wp2_with (first
       | ((with_reducible show zOq (.alloc 168));refine AO rfl 168 rfl (.agg Z) HZ.out.1 ?_;dsimp only[Value.cells];try simp only[World.size_alloc])
       | ((with_reducible show zOq (.store 168 (.tmp 14) _));go_must (refine AI rfl 168 _ _ rfl w4.heap.size 0 N rfl rfl (heap_alloc_new _ _) (by rw[BW,HN.out.1]) (by rw[HN.out.1,HZ.out.2];omega) HN.out.2 N (by rw[AT _ _ (by rw[Array.length_toList,Array.length_toList,HN.out.1,HZ.out.2])]) ?_)))
      go_ret2;rw[HIN.out];refine⟨rfl,BF.same HA.out ?_⟩;have h45:=(HS.out.2.2.2.1.alloc (.cells #[.int .i64 l,.pointer (some ⟨w.heap.size,0,none⟩)] 342)).trans C4.out (fun _=>fEq);exact(h45.alloc _).setRow (.inr h45.size) _
    have e3:((nd σ l).held == 0)=false:=by simpa using h0
    have e4:decide ((nd σ l).held=0)=false:=by simpa using h0
    have HG:=Lib.hid hgt;have hgood:¬Bf σ l:=fun hq=>hq.2.elim (fun h=>by rw[hb] at h;cases h) h0
    have HGD:=Lib.hid hgood;generalize (nd σ l).held=hd at k0 e3 e4;clear hgt hb hx h0 hgood;go_wp2_with fail;refine HG.out.mono ?_;rintro e w4 ⟨rfl,hc4⟩;have hs4:=hc4.size;have hsw:wr.heap.size<w4.heap.size:=by simp at hs4;omega
    have k1:=AH (AK (heap_alloc_new w4 (.cells Z 168)) N) k0;have ht4:=hc4.row (heap_alloc_new wr (.cells #[.int .i64 l,.pointer (some ⟨w.heap.size,0,none⟩)] 342)) id;have k2:=AH (row_setRow (AQ ht4 (.cells Z 168)) (by omega:wr.heap.size≠w4.heap.size) N) (i:=1) rfl;have hm4:=row_setRow (AQ (hc4.row (AQ HS.out.1 _) id) (.cells Z 168)) (by omega:w.heap.size≠w4.heap.size) N;have M4:=Lib.hid hm4;have C4:=Lib.hid hc4;clear hc4 k0 ht4 hm4 hs4
    go_wp2_with (first
     | ((with_reducible show zOq (.alloc 168));refine AO rfl 168 rfl (.agg Z) HZ.out.1 ?_;dsimp only[Value.cells];try simp only[World.size_alloc])
     | ((with_reducible show zOq (.load 168 _));refine AJ rfl 168 _ rfl w4.heap.size 0 rfl (AK (heap_alloc_new _ _) _) Tryz.underlying168 rfl BW (by rw[HN.out.1];omega) N (by simp[←HN.out.1]) ?_)
     | ((with_reducible show zOq (.store 168 (.tmp 59) _));go_must (refine AI rfl 168 _ _ rfl w.heap.size 0 N rfl rfl M4.out (by rw[BW,HN.out.1]) (by rw[HN.out.1,HZ.out.2];omega) HN.out.2 N (by rw[AT _ _ (by rw[Array.length_toList,Array.length_toList,HN.out.1,HZ.out.2])]) ?_))
     | ((with_reducible show zOq (.store 168 (.tmp 14) _));go_must (refine AI rfl 168 _ _ rfl w4.heap.size 0 N rfl rfl (heap_alloc_new _ _) (by rw[BW,HN.out.1]) (by rw[HN.out.1,HZ.out.2];omega) HN.out.2 N (by rw[AT _ _ (by rw[Array.length_toList,Array.length_toList,HN.out.1,HZ.out.2])]) ?_)))
    go_roundg 1
    case measure=>omega
    refine⟨1,by omega,rfl,by go_num,?_⟩;obtain⟨q1,q2,q3,q4,q5,q6⟩:=HS.out;have h45:=(q4.alloc (.cells #[.int .i64 l,.pointer (some ⟨w.heap.size,0,none⟩)] 342)).trans C4.out (fun _=>fEq)
    have hup:∀ {g:Nat} {o:Obj},g<wr.heap.size→g≠w.heap.size→wr.heap[g]?=some o→(((w4.alloc (.cells Z 168)).setRow w4.heap.size N).setRow w.heap.size N).heap[g]?=some o:=fun h1 h2 hg =>
     row_setRow (row_setRow (AQ (C4.out.row (AQ hg _) id) _) (by omega) _) h2 _
    have hnew:(((w4.alloc (.cells Z 168)).setRow w4.heap.size N).setRow w.heap.size N).heap[w.heap.size]?=some (.cells (nd σ l).cells 168 (0,0)):=by
     rw[←HNN.out];exact AK M4.out _
    refine⟨?_,?_,hup (by omega) (by omega) q3,((h45.alloc _).setRow (.inr h45.size) _).setRow (.inr (by omega)) _,fun _=>HGD.out,fun h=>by omega⟩
    · rw[if_pos (by omega)];exact hnew
    rw[if_neg (by omega)];exact hup (by omega) (by omega) q2
 · have hmine:wr.heap[(w.heap.size+1)]?=some (.cells Z 168 (0,0)):=by have h0:=hrR;rw[if_neg (by omega)] at h0;exact h0
   have hoth:wr.heap[w.heap.size]?=some (.cells (nd σ l).cells 168 (0,0)):=by have h0:=hrL;rw[if_pos (by omega)] at h0;exact h0
   have HS:=(hIq hmine (aIq hoth (aIq hrS (aIq hAd (aIq hbl hbr)))))
   clear hrL hrR hrS hAd hbl hbr hmine hoth;by_cases hx:r=0
   · subst hx
     clear hAr;go_wp2;go_roundg 0
     case measure=>omega
     refine⟨2,by omega,rfl,by go_num,?_⟩;obtain⟨q1,q2,q3,q4,q5,q6⟩:=HS.out;have hz0:(nd σ 0).cells=Z:=HZZ.out.1.symm;refine⟨?_,?_,AQ q3 _,q4.alloc _,fun _=>q5 (by omega),fun _ hb=>hb.1 rfl⟩
     · rw[if_pos (by omega)];exact AQ q2 _
     rw[if_pos (by omega),hz0];exact AQ q1 _
   have e1:(r == 0)=false:=by simpa using hx
   have e2:decide (r=0)=false:=by simpa using hx
   have hAr1:=hAr.adds ((Ch.refl (fun _=>False) wr).alloc (.cells #[.int .i64 r,.pointer (some ⟨(w.heap.size+1),0,none⟩)] 342));have hok:=hAr1.ok r;have hgt:=Cu hAr1 r;obtain⟨N,Z',hN,hn,hz⟩:=told hAr1 r;rw[←hN] at hgt;have k0:N[102]?=some (.int .i64 (nd σ r).held):=by rw[hN];exact Nd.GY hok
   have HN:=Lib.hid hn;have HNN:=Lib.hid hN;have HXX:=Lib.hid hx;clear hAr hAr1 hok hN hn hz;cases hb:has σ r with
   | false =>
    rw[hb] at hgt
    have hin:Ag σ d l r=(0,7,σ):=by
     unfold Ag;rw[if_neg (by omega),if_pos (.inr ⟨hx,.inl hb⟩)]
    have HIN:=Lib.hid hin;have HG:=Lib.hid hgt;clear hgt hb hin hx k0;go_wp2_with fail;refine HG.out.mono ?_;rintro e w4 ⟨rfl,hc4⟩;have C4:=Lib.hid hc4;clear hc4
    go_wp2_with (first
     | ((with_reducible show zOq (.alloc 168));refine AO rfl 168 rfl (.agg Z) HZ.out.1 ?_;dsimp only[Value.cells];try simp only[World.size_alloc])
     | ((with_reducible show zOq (.store 168 (.tmp 14) _));go_must (refine AI rfl 168 _ _ rfl w4.heap.size 0 N rfl rfl (heap_alloc_new _ _) (by rw[BW,HN.out.1]) (by rw[HN.out.1,HZ.out.2];omega) HN.out.2 N (by rw[AT _ _ (by rw[Array.length_toList,Array.length_toList,HN.out.1,HZ.out.2])]) ?_)))
    go_ret2;rw[HIN.out];refine⟨rfl,BF.same HA.out ?_⟩;have h45:=(HS.out.2.2.2.1.alloc (.cells #[.int .i64 r,.pointer (some ⟨(w.heap.size+1),0,none⟩)] 342)).trans C4.out (fun _=>fEq);exact(h45.alloc _).setRow (.inr h45.size) _
   | true =>
    rw[hb] at hgt;by_cases h0:(nd σ r).held=0
    · rw[h0] at k0
      have hin:Ag σ d l r=(0,7,σ):=by
       unfold Ag;rw[if_neg (by omega),if_pos (.inr ⟨hx,.inr h0⟩)]
      have HIN:=Lib.hid hin;have HG:=Lib.hid hgt;clear hgt hb hin hx h0;go_wp2_with fail;refine HG.out.mono ?_;rintro e w4 ⟨rfl,hc4⟩;have k1:=AH (AK (heap_alloc_new w4 (.cells Z 168)) N) k0;have C4:=Lib.hid hc4;clear hc4 k0
      go_wp2_with (first
       | ((with_reducible show zOq (.alloc 168));refine AO rfl 168 rfl (.agg Z) HZ.out.1 ?_;dsimp only[Value.cells];try simp only[World.size_alloc])
       | ((with_reducible show zOq (.store 168 (.tmp 14) _));go_must (refine AI rfl 168 _ _ rfl w4.heap.size 0 N rfl rfl (heap_alloc_new _ _) (by rw[BW,HN.out.1]) (by rw[HN.out.1,HZ.out.2];omega) HN.out.2 N (by rw[AT _ _ (by rw[Array.length_toList,Array.length_toList,HN.out.1,HZ.out.2])]) ?_)))
      go_ret2;rw[HIN.out];refine⟨rfl,BF.same HA.out ?_⟩;have h45:=(HS.out.2.2.2.1.alloc (.cells #[.int .i64 r,.pointer (some ⟨(w.heap.size+1),0,none⟩)] 342)).trans C4.out (fun _=>fEq);exact(h45.alloc _).setRow (.inr h45.size) _
    have e3:((nd σ r).held == 0)=false:=by simpa using h0
    have e4:decide ((nd σ r).held=0)=false:=by simpa using h0
    have HG:=Lib.hid hgt;have hgood:¬Bf σ r:=fun hq=>hq.2.elim (fun h=>by rw[hb] at h;cases h) h0
    have HGD:=Lib.hid hgood;generalize (nd σ r).held=hd at k0 e3 e4;clear hgt hb hx h0 hgood;go_wp2_with fail;refine HG.out.mono ?_;rintro e w4 ⟨rfl,hc4⟩;have hs4:=hc4.size;have hsw:wr.heap.size<w4.heap.size:=by simp at hs4;omega
    have k1:=AH (AK (heap_alloc_new w4 (.cells Z 168)) N) k0;have ht4:=hc4.row (heap_alloc_new wr (.cells #[.int .i64 r,.pointer (some ⟨(w.heap.size+1),0,none⟩)] 342)) id;have k2:=AH (row_setRow (AQ ht4 (.cells Z 168)) (by omega:wr.heap.size≠w4.heap.size) N) (i:=1) rfl;have hm4:=row_setRow (AQ (hc4.row (AQ HS.out.1 _) id) (.cells Z 168)) (by omega:(w.heap.size+1)≠w4.heap.size) N;have M4:=Lib.hid hm4;have C4:=Lib.hid hc4;clear hc4 k0 ht4 hm4 hs4
    go_wp2_with (first
     | ((with_reducible show zOq (.alloc 168));refine AO rfl 168 rfl (.agg Z) HZ.out.1 ?_;dsimp only[Value.cells];try simp only[World.size_alloc])
     | ((with_reducible show zOq (.load 168 _));refine AJ rfl 168 _ rfl w4.heap.size 0 rfl (AK (heap_alloc_new _ _) _) Tryz.underlying168 rfl BW (by rw[HN.out.1];omega) N (by simp[←HN.out.1]) ?_)
     | ((with_reducible show zOq (.store 168 (.tmp 59) _));go_must (refine AI rfl 168 _ _ rfl (w.heap.size+1) 0 N rfl rfl M4.out (by rw[BW,HN.out.1]) (by rw[HN.out.1,HZ.out.2];omega) HN.out.2 N (by rw[AT _ _ (by rw[Array.length_toList,Array.length_toList,HN.out.1,HZ.out.2])]) ?_))
     | ((with_reducible show zOq (.store 168 (.tmp 14) _));go_must (refine AI rfl 168 _ _ rfl w4.heap.size 0 N rfl rfl (heap_alloc_new _ _) (by rw[BW,HN.out.1]) (by rw[HN.out.1,HZ.out.2];omega) HN.out.2 N (by rw[AT _ _ (by rw[Array.length_toList,Array.length_toList,HN.out.1,HZ.out.2])]) ?_)))
    go_roundg 0
    case measure=>omega
    refine⟨2,by omega,rfl,by go_num,?_⟩;obtain⟨q1,q2,q3,q4,q5,q6⟩:=HS.out;have h45:=(q4.alloc (.cells #[.int .i64 r,.pointer (some ⟨(w.heap.size+1),0,none⟩)] 342)).trans C4.out (fun _=>fEq)
    have hup:∀ {g:Nat} {o:Obj},g<wr.heap.size→g≠(w.heap.size+1)→wr.heap[g]?=some o→(((w4.alloc (.cells Z 168)).setRow w4.heap.size N).setRow (w.heap.size+1) N).heap[g]?=some o:=fun h1 h2 hg =>
     row_setRow (row_setRow (AQ (C4.out.row (AQ hg _) id) _) (by omega) _) h2 _
    have hnew:(((w4.alloc (.cells Z 168)).setRow w4.heap.size N).setRow (w.heap.size+1) N).heap[(w.heap.size+1)]?=some (.cells (nd σ r).cells 168 (0,0)):=by
     rw[←HNN.out];exact AK M4.out _
    refine⟨?_,?_,hup (by omega) (by omega) q3,((h45.alloc _).setRow (.inr h45.size) _).setRow (.inr (by omega)) _,fun _=>q5 (by omega),fun _=>HGD.out⟩
    · rw[if_pos (by omega)];exact hup (by omega) (by omega) q2
    rw[if_pos (by omega)];exact hnew
 have hqL:wr.heap[w.heap.size]?=some (.cells (nd σ l).cells 168 (0,0)):=by have h0:=hrL;rw[if_pos (by omega)] at h0;exact h0
 have hqR:wr.heap[w.heap.size+1]?=some (.cells (nd σ r).cells 168 (0,0)):=by have h0:=hrR;rw[if_pos (by omega)] at h0;exact h0
 have hgl:=hbl (by omega);have hgr:=hbr (by omega);have hokl:=hAr.ok l;have hokr:=hAr.ok r;have hft:=U5 hokl hokr d l r hd0 hd1;have sl:=Nd.AY hokl;have sr:=Nd.AY hokr;have xl:=Nd.Be hokl;have xr:=Nd.Be hokr;have zl:=Nd.L6 hokl;have zr:=Nd.L6 hokr;unfold Nd.enc at hft;obtain⟨L,hL⟩:∃L,L=(nd σ l).cells:=⟨_,rfl⟩
 obtain⟨R,hR⟩:∃R,R=(nd σ r).cells:=⟨_,rfl⟩
 obtain⟨KL,hKL⟩:∃KL,KL=AS (nd σ l).key:=⟨_,rfl⟩
 obtain⟨KR,hKR⟩:∃KR,KR=AS (nd σ r).key:=⟨_,rfl⟩
 rw[←hL] at hft sl xl zl hqL;rw[←hR] at hft sr xr zr hqR;rw[←hKL] at xl;rw[←hKR] at xr
 have hin0:Ag σ d l r=if fitsB d l r (nd σ l) (nd σ r)=false then (0,2,σ) else if (σ.take (BV σ d l r)).2.1≠0 then (0,(σ.take (BV σ d l r)).2.1,σ) else
  ((σ.take (BV σ d l r)).1,0,bump (bump (σ.take (BV σ d l r)).2.2 l (-1)) r (-1)):=by
  unfold Ag;rw[if_neg (by omega),if_neg (fun h=>h.elim hgl hgr)]
 have FT:=Lib.hid hft;have LL:=(hIq sl (aIq xl (aIq zl (aIq hokl.key hKL))))
 have RR:=(hIq sr (aIq xr (aIq zr (aIq hokr.key hKR))))
 have QQ:=(hIq hqL (aIq hqR hAd))
 have IN:=Lib.hid hin0;have HAr:=Lib.hid hAr;clear hft sl sr xl xr zl zr hL hR hKL hKR hqL hqR hgl hgr hokl hokr hin0 hrL hrR hrS hAd hbl hbr hAr c0 c1 c2 c3 fz
 go_wp2_with (first
  | ((with_reducible show zOq (.load 168 _));refine AJ rfl 168 _ rfl w.heap.size 0 rfl QQ.out.1 Tryz.underlying168 rfl BW (by rw[LL.out.1];omega) L (by simp[←LL.out.1]) ?_)
  | ((with_reducible show zOq (.load 168 _));refine AJ rfl 168 _ rfl (w.heap.size+1) 0 rfl QQ.out.2.1 Tryz.underlying168 rfl BW (by rw[RR.out.1];omega) R (by simp[←RR.out.1]) ?_))
 cases hf:fitsB d l r (nd σ l) (nd σ r) with
 | false =>
  have hin1:Ag σ d l r=(0,2,σ):=by rw[IN.out,if_pos hf]
  have IN1:=Lib.hid hin1;rw[hf] at FT;clear hin1;refine(FT.out _).mono ?_;rintro e w3 ⟨rfl,hc3⟩;have C3:=Lib.hid hc3;clear hc3 hf;go_wp2;go_ret2;rw[IN1.out];exact⟨rfl,BF.same HA.out (QQ.out.2.2.trans C3.out (fun _=>fEq))⟩
 | true =>
  have hin1:Ag σ d l r=if (σ.take (BV σ d l r)).2.1≠0 then (0,(σ.take (BV σ d l r)).2.1,σ) else ((σ.take (BV σ d l r)).1,0,bump (bump (σ.take (BV σ d l r)).2.2 l (-1)) r (-1)):=by
   rw[IN.out,if_neg (by rw[hf];simp)]
  have IN1:=Lib.hid hin1;rw[hf] at FT;clear hin1 IN;refine(FT.out _).mono ?_;rintro e w3 ⟨rfl,hc3⟩;have hL3:=hc3.row QQ.out.1 id;have hR3:=hc3.row QQ.out.2.1 id;have hA3:=QQ.out.2.2.trans hc3 (fun _=>fEq);have hs3:=hA3.size;have hlR3:=Ad hR3;have Q3:=(hIq hL3 (aIq hR3 hA3))
  obtain⟨Zp,hZp⟩:∃Zp,Zp=AS (List.replicate 32 0):=⟨_,rfl⟩
  have hzp:=Ft;rw[←hZp] at hzp;have hZps:Zp.size=32:=by rw[hZp];rfl
  obtain⟨key0,hkey0⟩:∃key0,key0=if l=0 then (nd σ r).key else (nd σ l).key:=⟨_,rfl⟩
  have hk0l:key0.length=32:=by rw[hkey0];split;exact RR.out.2.2.2.1;exact LL.out.2.2.2.1
  obtain⟨K0,hK0⟩:∃K0,K0=AS key0:=⟨_,rfl⟩
  have hKLs:KL.size=32∧(∀v∈KL.toList,v.oneCell'=true):=by rw[LL.out.2.2.2.2];exact⟨by rw[AU];exact LL.out.2.2.2.1,BO _⟩
  have hKRs:KR.size=32∧(∀v∈KR.toList,v.oneCell'=true):=by rw[RR.out.2.2.2.2];exact⟨by rw[AU];exact RR.out.2.2.2.1,BO _⟩
  have ZP:=(hIq hzp hZps)
  have K0H:=(hIq hkey0 (aIq hk0l hK0))
  have KLH:=Lib.hid hKLs;have KRH:=Lib.hid hKRs;clear hc3 hf hL3 hR3 hA3 hZp hzp hZps hkey0 hk0l hK0 hKLs hKRs
  go_upto_if 71 with(first
   | ((with_reducible show zOq (.alloc 47));refine AO rfl 47 rfl (.agg Zp) ZP.out.1 ?_;dsimp only[Value.cells];try simp only[World.size_alloc])
   | ((with_reducible show zOq (.load 47 _));refine AJ rfl 47 _ rfl w.heap.size 34 rfl Q3.out.1 Tryz.underlying47 rfl Ab (by rw[LL.out.1];omega) KL LL.out.2.1 ?_)
   | ((with_reducible show zOq (.store 47 (.tmp 16) _));go_must (refine AI rfl 47 _ _ rfl w3.heap.size 0 KL rfl rfl (heap_alloc_new _ _) (by rw[Ab,KLH.out.1]) (by rw[KLH.out.1,ZP.out.2];omega) KLH.out.2 KL (by rw[AT _ _ (by rw[Array.length_toList,Array.length_toList,KLH.out.1,ZP.out.2])]) ?_)))
  go_cut [] (fun wx=>wx.heap[w3.heap.size]?=some (.cells K0 47 (0,0))∧wx.heap[w.heap.size]?=some (.cells L 168 (0,0))∧wx.heap[w.heap.size+1]?=some (.cells R 168 (0,0))∧AN w wx)
  case first =>
   by_cases hx:l=0
   · have e1:(l == 0)=true:=by simpa using hx
     have e2:decide (l=0)=true:=by simpa using hx
     have hkr:KR=K0:=by rw[K0H.out.2.2,K0H.out.1,if_pos hx];exact RR.out.2.2.2.2
     have KR0:=Lib.hid hkr;clear hx hkr
     go_wp2_with (first
      | ((with_reducible show zOq (.load 47 _));refine AJ rfl 47 _ rfl (w.heap.size+1) 34 rfl (row_setRow (AQ Q3.out.2.1 _) (by omega) _) Tryz.underlying47 rfl Ab (by rw[RR.out.1];omega) KR RR.out.2.1 ?_)
      | ((with_reducible show zOq (.store 47 (.tmp 16) _));go_must (refine AI rfl 47 _ _ rfl w3.heap.size 0 KR rfl rfl (AK (heap_alloc_new _ _) _) (by rw[Ab,KRH.out.1]) (by rw[KRH.out.1,KLH.out.1];omega) KRH.out.2 KR (by rw[AT _ _ (by rw[Array.length_toList,Array.length_toList,KRH.out.1,KLH.out.1])]) ?_)))
     go_meet;rw[←KR0.out];exact⟨AK (AK (heap_alloc_new _ _) _) _,row_setRow (row_setRow (AQ Q3.out.1 _) (by omega) _) (by omega) _,row_setRow (row_setRow (AQ Q3.out.2.1 _) (by omega) _) (by omega) _,((Q3.out.2.2.alloc _).setRow (.inr (by omega)) _).setRow (.inr (by omega)) _⟩
   have e1:(l == 0)=false:=by simpa using hx
   have e2:decide (l=0)=false:=by simpa using hx
   have hkr:KL=K0:=by rw[K0H.out.2.2,K0H.out.1,if_neg hx];exact LL.out.2.2.2.2
   have KR0:=Lib.hid hkr;clear hx hkr;go_wp2_with fail;go_meet;rw[←KR0.out];exact⟨AK (heap_alloc_new _ _) _,row_setRow (AQ Q3.out.1 _) (by omega) _,row_setRow (AQ Q3.out.2.1 _) (by omega) _,(Q3.out.2.2.alloc _).setRow (.inr (by omega)) _⟩
  obtain⟨p1,p2,p3,p4⟩:=hcut;have hK0s:K0.size=32:=by rw[K0H.out.2.2,AU,K0H.out.2.1]
  have hfirst:=Sr key0 K0H.out.2.1 d ⟨hd0,by omega⟩;obtain⟨KF,hKF⟩:∃KF,KF=AS (first key0 d):=⟨_,rfl⟩
  have hKFl:(first key0 d).length=32:=by rw[CN];exact K0H.out.2.1
  have hKFs:KF.size=32∧∀v∈KF.toList,v.oneCell'=true:=by rw[hKF];exact⟨by rw[AU,hKFl],BO _⟩
  rw[←hKF, ←K0H.out.2.2] at hfirst;have FI:=Lib.hid hfirst;have KF0:=(hIq hKFs (aIq hKF hKFl))
  have K0S:=Lib.hid hK0s;have PP:=(hIq p1 (aIq p2 (aIq p3 p4)))
  clear p1 p2 p3 p4 hK0s hfirst hKF hKFl hKFs
  go_wp2_with (first
   | ((with_reducible show zOq (.load 47 _));refine AJ rfl 47 _ rfl w3.heap.size 0 rfl PP.out.1 Tryz.underlying47 rfl Ab (by rw[K0S.out];omega) K0 (by simp[←K0S.out]) ?_))
  refine(FI.out _).mono ?_;rintro e w5 ⟨rfl,hc5⟩;have h51:=hc5.row PP.out.1 id;have h52:=hc5.row PP.out.2.1 id;have h53:=hc5.row PP.out.2.2.1 id;have h54:=PP.out.2.2.2.trans hc5 (fun _=>fEq);have P5:=(hIq h51 (aIq h52 (aIq h53 h54)))
  clear hc5 h51 h52 h53 h54
  go_wp2_with (first
   | ((with_reducible show zOq (.store 47 _ _));refine AI rfl 47 _ _ rfl w3.heap.size 0 KF rfl rfl P5.out.1 (by rw[Ab,KF0.out.1.1]) (by rw[KF0.out.1.1,K0S.out];omega) KF0.out.1.2 KF (by rw[AT _ _ (by rw[Array.length_toList,Array.length_toList,KF0.out.1.1,K0S.out])]) ?_))
  have hcw:AN w (w5.setRow w3.heap.size KF):=P5.out.2.2.2.setRow (.inr (by omega)) _;have hr1:=AK P5.out.1 KF;have hr2:=row_setRow P5.out.2.1 (by omega:w.heap.size≠w3.heap.size) KF;have hr3:=row_setRow P5.out.2.2.1 (by omega:w.heap.size+1≠w3.heap.size) KF;obtain⟨W,hW⟩:∃W,W=w5.setRow w3.heap.size KF:=⟨_,rfl⟩
  rw[←hW] at hcw hr1 hr2 hr3 ⊢;clear hW;obtain⟨a6,G6,g1,_⟩:=HA.out.adds hcw;have hszw:=hcw.size;obtain⟨szl,hszl⟩:∃x,x=(nd σ l).size:=⟨_,rfl⟩
  obtain⟨szr,hszr⟩:∃x,x=(nd σ r).size:=⟨_,rfl⟩
  have cL:=LL.out.2.2.1;have cR:=RR.out.2.2.1;rw[←hszl] at cL;rw[←hszr] at cR;obtain⟨DL,hDL⟩:∃D,D=CB σ l:=⟨_,rfl⟩
  obtain⟨DR,hDR⟩:∃D,D=CB σ r:=⟨_,rfl⟩
  have hDLl:DL.length=32:=by rw[hDL];exact HA.out.BM l
  have hDRl:DR.length=32:=by rw[hDR];exact HA.out.BM r
  obtain⟨DD,hDD⟩:∃D,D=Tag.GO DL DR:=⟨_,rfl⟩
  have hDDl:DD.length=32:=by rw[hDD];exact Tag.BM _ _
  obtain⟨BL,hBL⟩:∃B,B=AS DL:=⟨_,rfl⟩
  obtain⟨BR,hBR⟩:∃B,B=AS DR:=⟨_,rfl⟩
  obtain⟨BD,hBD⟩:∃B,B=AS DD:=⟨_,rfl⟩
  have hti:=fun w=>Tag.KJ DL DR hDLl hDRl w
  rw[←hBL, ←hBR, ←hDD, ←hBD] at hti
  have hdl:∀w1,AN w w1→Calls Tryz.prog 58 #[.pointer (some ⟨s,0,none⟩),.int .i64 l] w1 fun e w'=>e=.returned (.agg BL)∧AN w1 w':=fun w1 hc=>by
   have:=Lj (HA.out.adds hc) l;rw[←hDL, ←hBL] at this;exact this
  have hdr:∀w1,AN w w1→Calls Tryz.prog 58 #[.pointer (some ⟨s,0,none⟩),.int .i64 r] w1 fun e w'=>e=.returned (.agg BR)∧AN w1 w':=fun w1 hc=>by
   have:=Lj (HA.out.adds hc) r;rw[←hDR, ←hBR] at this;exact this
  have hbd:=Nd.GM DD hDDl;rw[←hBD] at hbd;have hX:(Nd.inner DD (first key0 d) d l r (wrap64 (szl+szr))).Ok:=Nd.TO hDDl KF0.out.2.2;have hbt:=Nd.NK DD (first key0 d) d l r (wrap64 (szl+szr)) hDDl KF0.out.2.2;obtain⟨NC,hNC⟩:∃N,N=(Nd.inner DD (first key0 d) d l r (wrap64 (szl+szr))).cells:=⟨_,rfl⟩
  rw[←hBD, ←KF0.out.2.1, ←hNC] at hbt
  have hnd:BV σ d l r=Nd.inner DD (first key0 d) d l r (wrap64 (szl+szr)):=by
   unfold BV;rw[←hDL, ←hDR, ←hDD, ←hszl, ←hszr,K0H.out.1]
  rw[hnd] at IN1;have TI:=Lib.hid hti;have DGL:=Lib.hid hdl;have DGR:=Lib.hid hdr;have BDH:=Lib.hid hbd;have BTH:=Lib.hid hbt;have XX:=(hIq hX hNC)
  have CW:=(hIq hcw (aIq hr1 (aIq hr2 (aIq hr3 g1))))
  have CLR:=(hIq cL cR)
  clear hti hdl hdr hbd hbt hX hNC hnd hcw hr1 hr2 hr3 g1 cL cR hszl hszr hDL hDR hDLl hDRl hDD hDDl hBL hBR hBD;refine AP (fun w0=>w0.heap[w3.heap.size]?=some (.cells KF 47 (0,0))∧w0.heap[w.heap.size]?=some (.cells L 168 (0,0))∧w0.heap[w.heap.size+1]?=some (.cells R 168 (0,0))∧w0.heap[s]?=some (.cells #[.pointer (some ⟨a6,0,none⟩)] 174 (0,0))) 27 [(0,false),(1,false),(2,false),(3,false),(4,false),(5,false),(7,false),(8,false),(12,false),(13,false),(14,false),(15,false),(16,false),(17,false),(18,false),(19,false),(20,false),(6,true),(9,true),(10,true),(11,false),(21,false),(22,true),(23,false),(24,false),(25,false),(26,false)] (by kernel_rfl) (by kernel_rfl) ?_ ?_
  · exact CW.out.2
  iterate 3 refine plan_look rfl rfl (fun w0 hS=>(by go_simp;try rfl)) ?_
  refine plan_look rfl rfl (fun w0 hS=>(by have c:=AH hS.2.2.2 (i:=0) rfl;clear hS;go_simp;try rfl)) ?_
  iterate 5 refine plan_look rfl rfl (fun w0 hS=>(by go_simp;try rfl)) ?_
  simp only[Act.put,nAq,nBq,nCq];refine Aa (cur:=KF) (t:=47) (fr:=(0,0)) rfl rfl 47 (.tmp 16) rfl w3.heap.size 0 32 rfl (fun w0 hS=>hS.1) Tryz.underlying47 rfl Ab (by rw[KF0.out.1.1];omega) KF (by simp[←KF0.out.1.1]) ?_;simp only[Act.put,nAq,nBq,nCq]
  iterate 3 refine plan_look rfl rfl (fun w0 hS=>(by go_simp;try rfl)) ?_
  refine plan_look rfl rfl (fun w0 hS=>(by have c:=AH hS.2.1 CLR.out.1;clear hS;go_simp;try rfl)) ?_
  iterate 1 refine plan_look rfl rfl (fun w0 hS=>(by go_simp;try rfl)) ?_
  refine plan_look rfl rfl (fun w0 hS=>(by have c:=AH hS.2.2.1 CLR.out.2;clear hS;go_simp;try rfl)) ?_;refine plan_look (v:=.int .i64 (wrap64 (szl+szr))) rfl rfl (fun w0 hS=>(by clear hS;go_simp;exact IntWalk.i64_left _)) ?_;simp only[Act.put,nAq,nBq,nCq];refine AW rfl ?_;go_wp2_with fail;refine(DGL.out _ CW.out.1.drew).mono ?_;rintro e w6 ⟨rfl,hc6⟩;dsimp only;go_step;refine wpList_nil ?_;change _∧_;have hw6:AN w w6:=CW.out.1.drew.trans hc6 (fun _=>fEq);have hS6:=aIq (hc6.row CW.out.2.1 id) (aIq (hc6.row CW.out.2.2.1 id) (aIq (hc6.row CW.out.2.2.2.1 id) (hc6.row CW.out.2.2.2.2 id)));refine⟨hS6,?_⟩;have W6:=(hIq hw6 hS6)
  clear hc6 hw6 hS6;refine AW rfl ?_;go_wp2_with fail;refine(DGR.out _ W6.out.1).mono ?_;rintro e w7 ⟨rfl,hc7⟩;dsimp only;go_step;refine wpList_nil ?_;change _∧_;have hw7:AN w w7:=W6.out.1.trans hc7 (fun _=>fEq);have hS7:=aIq (hc7.row W6.out.2.1 id) (aIq (hc7.row W6.out.2.2.1 id) (aIq (hc7.row W6.out.2.2.2.1 id) (hc7.row W6.out.2.2.2.2 id)));refine⟨hS7,?_⟩;have W7:=(hIq hw7 hS7)
  clear hc7 hw7 hS7 W6;refine AW rfl ?_;go_wp2_with fail;refine(TI.out _).mono ?_;rintro e w8 ⟨rfl,hc8⟩;dsimp only;go_step;refine wpList_nil ?_;change _∧_;have hw8:AN w w8:=W7.out.1.trans hc8 (fun _=>fEq);have hS8:=aIq (hc8.row W7.out.2.1 id) (aIq (hc8.row W7.out.2.2.1 id) (aIq (hc8.row W7.out.2.2.2.1 id) (hc8.row W7.out.2.2.2.2 id)));refine⟨hS8,?_⟩;have W8:=(hIq hw8 hS8)
  clear hc8 hw8 hS8 W7;refine FV rfl rfl 166 _ rfl [(0,.agg BD)] rfl _ BDH.out ?_;simp only[Act.put,nAq,nBq,nCq];refine FV rfl rfl 168 _ rfl [(0,.agg BD),(1,.int .u8 2),(2,.int .i64 d),(3,.agg KF),(6,.int .i64 l),(7,.int .i64 r),(8,.int .i64 (wrap64 (szl+szr))),(9,.int .i64 1)] rfl _ BTH.out ?_;simp only[Act.put,nAq,nBq,nCq];refine AW rfl ?_;obtain⟨nd0,hnd0⟩:∃x,x=Nd.inner DD (first key0 d) d l r (wrap64 (szl+szr)):=⟨_,rfl⟩
  rw[←hnd0] at XX IN1;have hbx:Bytes w8 nd0.addr nd0.value:=by rw[hnd0];exact Bytes.nil _
  have hbk:nd0.addr.ownBlock=none:=by rw[hnd0];rfl
  clear hnd0;obtain⟨a',G',g1,g2,g3,g4⟩:=Lg (HA.out.adds W8.out.1) XX.out.1 hbx (fun k hk=>by rw[hbk] at hk;cases hk)
  have haa:a'=a6:=by
   have h4:=g1.symm.trans W8.out.2.2.2.2;simp only[Option.some.injEq,Obj.cells.injEq,Value.pointer.injEq,Addr.mk.injEq,Array.mk.injEq,List.cons.injEq,and_true] at h4;simpa using h4
  subst haa;have htk:=SlabN.PW g2 nd0.enc (Nd.OR XX.out.1);rw[AG.map_take] at htk;rw[show nd0.enc=.agg NC by rw[XX.out.2];rfl] at htk;obtain⟨th,hth⟩:∃x,x=(σ.take nd0).1:=⟨_,rfl⟩
  obtain⟨te,hte⟩:∃x,x=(σ.take nd0).2.1:=⟨_,rfl⟩
  have hno:(σ.take nd0).2.1≠0→(σ.take nd0).2.2=σ:=fun h=>by
   unfold AG.take at h ⊢;split
   · rfl
   rename_i hu;rw[if_neg hu] at h;split at h<;>exact absurd rfl h
  simp only at htk;rw[←hte] at hno;have NO:=Lib.hid hno;rw[←hth, ←hte] at htk IN1;have TK:=Lib.hid htk;have G4:=(hIq g4 g3)
  have BK:=Lib.hid hbk;clear htk g1 g2 g3 g4 hbx hbk hth hte hno;go_wp2_with fail;refine TK.out.mono ?_;rintro e w9 ⟨rfl,hm9⟩;dsimp only;go_step;refine wpList_nil ?_;change _∧_;obtain⟨G9,p1,p2,p3⟩:=id hm9;have hG9:∀k,w.heap.size≤k→¬G' k:=fun k hk hg=>by have:=HF.out _ (G4.out.2 k hg).1;omega
  refine⟨⟨p2.row W8.out.2.1 (hG9 _ hs3),p2.row W8.out.2.2.1 (hG9 _ (Nat.le_refl _)),p2.row W8.out.2.2.2.1 (hG9 _ (Nat.le_succ _)),p2.row W8.out.2.2.2.2 (fun hg=>(G4.out.2 _ hg).2.1 rfl)⟩,?_⟩;have hm:=G4.out.1 _ hm9;have hm':BF w w9 s F (σ.take nd0).2.2:=BF.from W8.out.1 hm (fun k hk=>hk.elim .inl (fun h=>by rw[BK.out] at h;cases h));have M9:=Lib.hid hm';clear hm hm' hm9 p1 p2 p3 hG9 TK G4
  iterate 4 refine plan_look rfl rfl (fun w0 hS=>(by go_simp;try rfl)) ?_
  refine AZ ?_;simp only[List.drop_succ_cons,List.drop_zero];go_wp2;refine NoPanic.normal ?_;by_cases he:te=0
  · subst he
    have hin2:Ag σ d l r=(th,0,bump (bump (σ.take nd0).2.2 l (-1)) r (-1)):=by rw[IN1.out,if_neg (by simp)]
    have I2:=Lib.hid hin2;clear hin2 IN1;obtain⟨F9,x1,x2,x3⟩:=M9.out;have M9':=(hIq x1 (aIq x2 x3))
    clear x1 x2 x3;go_wp2_with fail;refine(Ff M9'.out.1 l (-1)).mono ?_;rintro e w10 ⟨⟨v10,rfl⟩,hm10⟩;obtain⟨F10,x1,x2,x3⟩:=BF.cons M9'.out.2.1 M9'.out.2.2 hm10;have M10:=(hIq x1 (aIq x2 x3))
    clear x1 x2 x3 hm10;go_wp2_with fail;refine(Ff M10.out.1 r (-1)).mono ?_;rintro e w11 ⟨⟨v11,rfl⟩,hm11⟩;have M11:=Lib.hid (BF.cons M10.out.2.1 M10.out.2.2 hm11);clear hm11;go_wp2;go_ret2;rw[I2.out];exact⟨rfl,M11.out⟩
  have e1:(te != 0)=true:=by simpa using he
  have e2:decide (te=0)=false:=by simpa using he
  have hin2:Ag σ d l r=(0,te,σ):=by rw[IN1.out,if_pos he]
  have I2:=Lib.hid hin2;have hM:=M9.out;rw[NO.out he] at hM;have MM:=Lib.hid hM;clear hin2 IN1 he hM;go_wp2;go_ret2;rw[I2.out];exact⟨rfl,MM.out⟩
theorem KJ {w:World} {s:Nat} {F:Nat→Prop} {σ:AG Nd} (h:At w s F σ) (d l r:Int) :
 Calls Tryz.prog 206 #[.pointer (some ⟨s,0,none⟩),.int .i64 d,.int .i64 l,.int .i64 r] w fun e w'=>e=.returned (.tuple #[.int .i64 (Ag σ d l r).1,.int .i64 (Ag σ d l r).2.1])∧BF w w' s F (Ag σ d l r).2.2:=by
 by_cases h0:d<0
 · have:Ag σ d l r=(0,2,σ):=by unfold Ag;rw[if_pos (.inl h0)]
   rw[this];exact(Qg h d l r h0).mono fun e w' ⟨he,ha⟩=>⟨he,BF.same h (ha▸Ch.refl _ _)⟩
 by_cases h1:255<d
 · have:Ag σ d l r=(0,2,σ):=by unfold Ag;rw[if_pos (.inr h1)]
   rw[this];exact(PO h d l r h1).mono fun e w' ⟨he,ha⟩=>⟨he,BF.same h (ha▸Ch.refl _ _)⟩
 exact TG h d l r (by omega) (by omega)
end Go.Proofs.YtngbdbpofifimaaGreat.Store
