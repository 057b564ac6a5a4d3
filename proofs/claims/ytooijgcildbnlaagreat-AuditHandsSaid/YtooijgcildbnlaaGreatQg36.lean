/- Laws of the layers below. -/
import Derived.Test.YtooijgcildbnlaaGreatQg35
import Derived.Test.YtooijgcildbnlaaGreatQg12
set_option maxHeartbeats 3200000
set_option maxRecDepth 100000
set_option linter.unusedVariables false
namespace Go.Proofs.YtooijgcildbnlaaGreat.ShaW
open Go.RowKit
theorem EC {w wq:World} (h:wq=w.drew.drew.drew.drew.drew.drew) {p:Addr} {v:Value} (hc:w.cell? p=some v):wq.cell? p=some v:=by subst h;exact hc
theorem Tp {w:World} (h:List UInt32) (hh:h.length=8) {g off cap:Nat} {b:List UInt8} (hb:Bytes w (.slice (some ⟨g,off,none⟩) 64 cap) b) :
 Calls Tryz.prog 290 #[.agg (BQ h),.slice (some ⟨g,off,none⟩) 64 cap] w fun e w'=>e=.returned (.agg (BQ (Sha.step h b)))∧Ch (fun _=>False) w w':=by
 have HSC:=Lib.hid (fun w1 (a:Ch (fun _=>False) w w1)=>Sa (w:=w1) (hb.Am a (fun _ _ h=>h)));have HKC:=Lib.hid LG;obtain⟨Z,hZ⟩:∃Z,DY 64=Z:=⟨_,rfl⟩
 have z0:=JG;have hZs:Z.size=64:=by rw[←hZ];simp[DY]
 rw[hZ] at z0;obtain⟨Y,hY⟩:∃Y,DY 8=Y:=⟨_,rfl⟩
 have y0:=Th;have hYs:Y.size=8:=by rw[←hY];simp[DY]
 rw[hY] at y0;obtain⟨H,hH⟩:∃H,BQ h=H:=⟨_,rfl⟩
 have hHs:H.size=8:=by rw[←hH,Bf,hh]
 obtain⟨S,hS⟩:∃S,BQ (Sha.sched b)=S:=⟨_,rfl⟩
 have hSs:S.size=64:=by rw[←hS,Bf,Sha.Ck]
 have hS1:=CF (Sha.sched b);obtain⟨K,hK⟩:∃K,BQ Sha.kc=K:=⟨_,rfl⟩
 have hKs:K.size=64:=by rw[←hK,Bf];rfl
 have hK1:=CF Sha.kc;have hH1:=CF h;rw[hS] at HSC;rw[hK] at HKC;rw[hH];rw[hS] at hS1;rw[hK] at hK1;rw[hH] at hH1;have Z0:=(hIq z0 hZs)
 have Y0:=(hIq y0 hYs)
 have H0:=(hIq hH (aIq hHs hH1))
 have S0:=(hIq hS (aIq hSs hS1))
 have K0:=(hIq hK (aIq hKs hK1))
 have HH:=Lib.hid hh;clear hZ z0 hZs hY y0 hYs hH hHs hH1 hS hSs hS1 hK hKs hK1 hh hb;go_enter Tryz.func290,Tryz.ntmps290
 go_wp2_with (first
  | ((with_reducible show zOq (.alloc 350));refine AH rfl 350 rfl (.agg Y) Y0.out.1 ?_;dsimp only[Value.cells];try simp only[World.size_alloc]))
 have hab:Ch (fun _=>False) w ((w.alloc (.cells H 350)).alloc (.cells Y 350)):=((Ch.refl _ _).alloc _).alloc _;refine(HSC.out _ hab).mono ?_;rintro e w1 ⟨rfl,hc1⟩;have e0:w1.heap[w.heap.size]?=some (.cells H 350 (0,0)):=hc1.row (AM (heap_alloc_new _ _) _) id
 have e1:w1.heap[w.heap.size+1]?=some (.cells Y 350 (0,0)):=by
  refine hc1.row ?_ id;have:=heap_alloc_new (w.alloc (.cells H 350)) (.cells Y 350);simpa using this
 have s1:=hc1.size;simp only[World.size_alloc] at s1;have hw1:=hab.trans hc1 (fun _=>fEq);have E0:=(hIq e0 (aIq e1 hw1))
 clear hc1 e0 e1 hw1 hab HSC
 go_wp2_with (first
  | ((with_reducible show zOq (.alloc 382));refine AH rfl 382 rfl (.agg Z) Z0.out.1 ?_;dsimp only[Value.cells];try simp only[World.size_alloc])
  | ((with_reducible show zOq (.store 382 _ _));refine AE rfl 382 _ _ rfl w1.heap.size 0 S rfl rfl (heap_alloc_new _ _) (by rw[Df,S0.out.2.1]) (by rw[S0.out.2.1,Z0.out.2];omega) S0.out.2.2 S (by rw[AI _ _ (by rw[Array.length_toList,Array.length_toList,S0.out.2.1,Z0.out.2])]) ?_))
 obtain⟨w2,hw2⟩:∃w2,w2=(w1.alloc (.cells Z 382)).setRow w1.heap.size S:=⟨_,rfl⟩
 rw[←hw2];have c2:Ch (fun _=>False) w1 w2:=by rw[hw2];exact((Ch.refl _ _).alloc _).setRow (.inr (Nat.le_refl _)) _
 have r5:w2.heap[w1.heap.size]?=some (.cells S 382 (0,0)):=by rw[hw2];exact AF (heap_alloc_new _ _) _
 have s2:w2.heap.size=w1.heap.size+1:=by rw[hw2];simp
 obtain⟨B5,hB5⟩:∃B,B=w1.heap.size:=⟨_,rfl⟩
 rw[←hB5] at r5 s2 s1 ⊢;have E2:=(hIq (c2.row E0.out.1 id) (aIq (c2.row E0.out.2.1 id) (aIq (E0.out.2.2.trans c2 (fun _=>fEq)) r5)))
 clear hw2 c2 r5 hB5 E0;refine(HKC.out _).mono ?_;rintro e w3 ⟨rfl,hc3⟩;have s3:=hc3.size;have E3:=(hIq (hc3.row E2.out.1 id) (aIq (hc3.row E2.out.2.1 id) (aIq (E2.out.2.2.1.trans hc3 (fun _=>fEq)) (hc3.row E2.out.2.2.2 id))))
 clear hc3 E2
 go_wp2_with (first
  | ((with_reducible show zOq (.alloc 382));refine AH rfl 382 rfl (.agg Z) Z0.out.1 ?_;dsimp only[Value.cells];try simp only[World.size_alloc])
  | ((with_reducible show zOq (.store 382 _ _));refine AE rfl 382 _ _ rfl w3.heap.size 0 K rfl rfl (heap_alloc_new _ _) (by rw[Df,K0.out.2.1]) (by rw[K0.out.2.1,Z0.out.2];omega) K0.out.2.2 K (by rw[AI _ _ (by rw[Array.length_toList,Array.length_toList,K0.out.2.1,Z0.out.2])]) ?_)
  | ((with_reducible show zOq (.load 350 _));refine AK rfl 350 _ rfl w.heap.size 0 rfl (row_setRow (AM E3.out.1 _) (by omega) _) Tryz.underlying350 rfl Dw (by rw[H0.out.2.1];omega) H (by simp[←H0.out.2.1]) ?_)
  | ((with_reducible show zOq (.alloc 350));refine AH rfl 350 rfl (.agg Y) Y0.out.1 ?_;dsimp only[Value.cells];try simp only[World.size_alloc,size_setRow])
  | ((with_reducible show zOq (.store 350 _ _));refine AE rfl 350 _ _ rfl (w3.heap.size+1) 0 H rfl rfl (by rw[Ap];simp) (by rw[Dw,H0.out.2.1]) (by rw[H0.out.2.1,Y0.out.2];omega) H0.out.2.2 H (by rw[AI _ _ (by rw[Array.length_toList,Array.length_toList,H0.out.2.1,Y0.out.2])]) ?_))
 go_loopg [8,9,10,11,12,13,14] 64 (fun gg s8 s9 s10 s11 s12 s13 s14 wr=>∃k:Nat,k≤64∧gg=64-k∧s8=.int .i64 k∧wr.heap[w3.heap.size+1]?=some (.cells (BQ (Sha.rounds (Sha.sched b) h k)) 350 (0,0)) ∧
  wr.heap[B5]?=some (.cells S 382 (0,0))∧wr.heap[w3.heap.size]?=some (.cells K 382 (0,0))∧wr.heap[w.heap.size]?=some (.cells H 350 (0,0)) ∧
  wr.heap[w.heap.size+1]?=some (.cells Y 350 (0,0))∧Ch (fun _=>False) w wr)
 case atStart =>
  refine⟨0,Nat.zero_le _,rfl,rfl,?_,?_,?_,?_,?_,?_⟩
  · show _=some (Obj.cells (BQ h) _ _)
    rw[CD,Ap]<;>simp[H0.out.1,putRow]
  · exact row_setRow (AM (row_setRow (AM E3.out.2.2.2 _) (by omega) _) _) (by omega) _
  · rw[Bw,DO,CD,Ap]<;>first|(simp[putRow];done)|(simp;omega)
  · exact row_setRow (AM (row_setRow (AM E3.out.1 _) (by omega) _) _) (by omega) _
  · exact row_setRow (AM (row_setRow (AM E3.out.2.1 _) (by omega) _) _) (by omega) _
  have:=E3.out.2.2.1.size;exact(((E3.out.2.2.1.alloc _).setRow (.inr (by omega)) _).alloc _).setRow (.inr (by omega)) _
 obtain⟨k,hk,rfl,rfl,rv,rS,rK,rH,rY,hch⟩:=hrel;by_cases hkl:k<64
 · have hVl:=Sha.DI (Sha.sched b) h HH.out k
   have hgs:=BS (l:=Sha.sched b) (i:=k) (by rw[Sha.Ck];exact hkl);have hgk:=BS (l:=Sha.kc) (i:=k) (by show k<64;exact hkl);rw[S0.out.1] at hgs;rw[K0.out.1] at hgk;have hnx:Sha.rounds (Sha.sched b) h (k+1)=Sha.round (Sha.kc.getD k 0) ((Sha.sched b).getD k 0) (Sha.rounds (Sha.sched b) h k):=rfl;obtain⟨V,hV⟩:∃V,V=Sha.rounds (Sha.sched b) h k:=⟨_,rfl⟩
   rw[←hV] at hVl rv hnx;have hrd:Sha.round (Sha.kc.getD k 0) ((Sha.sched b).getD k 0) V=Sha.round (Sha.kc.getD k 0) ((Sha.sched b).getD k 0) [V.getD 0 0,V.getD 1 0,V.getD 2 0,V.getD 3 0,V.getD 4 0,V.getD 5 0,V.getD 6 0,V.getD 7 0]:=rfl;have c0:=AG rv (BS (l:=V) (i:=0) (by omega));have c1:=AG rv (BS (l:=V) (i:=1) (by omega));have c2:=AG rv (BS (l:=V) (i:=2) (by omega));have c3:=AG rv (BS (l:=V) (i:=3) (by omega));have c4:=AG rv (BS (l:=V) (i:=4) (by omega));have c5:=AG rv (BS (l:=V) (i:=5) (by omega));have c6:=AG rv (BS (l:=V) (i:=6) (by omega));have c7:=AG rv (BS (l:=V) (i:=7) (by omega));have cs:=AG rS hgs;have ck:=AG rK hgk;generalize V.getD 0 0=v0 at c0 hrd;generalize V.getD 1 0=v1 at c1 hrd;generalize V.getD 2 0=v2 at c2 hrd;generalize V.getD 3 0=v3 at c3 hrd;generalize V.getD 4 0=v4 at c4 hrd;generalize V.getD 5 0=v5 at c5 hrd;generalize V.getD 6 0=v6 at c6 hrd;generalize V.getD 7 0=v7 at c7 hrd;generalize (Sha.sched b).getD k 0=xs at cs hrd hnx;generalize Sha.kc.getD k 0=xk at ck hrd hnx;have hk1:(k:Int)≤63:=by omega
   have hk2:k≤63:=by omega
   have hk3:(k:Int)<64:=by omega
   have HN:=Lib.hid (hnx.trans hrd);have HVL:=Lib.hid hVl;have RV:=Lib.hid rv;have RS:=Lib.hid rS;have RK:=Lib.hid rK;have RH:=Lib.hid rH;have RY:=Lib.hid rY;have HC:=Lib.hid hch;clear hnx hrd hVl rv rS rK rH rY hch hV hgs hgk;go_wp2_with fail;refine(Vh v4 _).mono ?_;rintro e u1 ⟨rfl,rfl⟩;go_wp2_with fail;refine(Sy v4 _).mono ?_;rintro e u2 ⟨rfl,rfl⟩;go_wp2_with fail;refine(TY v4 _).mono ?_;rintro e u3 ⟨rfl,rfl⟩;go_wp2_with fail;refine(U3 v0 _).mono ?_;rintro e u4 ⟨rfl,rfl⟩;go_wp2_with fail;refine(Ub v0 _).mono ?_;rintro e u5 ⟨rfl,rfl⟩;go_wp2_with fail;refine(Tc v0 _).mono ?_;rintro e u6 ⟨rfl,rfl⟩;go_wp2;obtain⟨wq,hwq⟩:∃wq,wq=wr.drew.drew.drew.drew.drew.drew:=⟨_,rfl⟩
   rw[←hwq];replace c0:=EC hwq c0;replace c1:=EC hwq c1;replace c2:=EC hwq c2;replace c3:=EC hwq c3;replace c4:=EC hwq c4;replace c5:=EC hwq c5;replace c6:=EC hwq c6;replace c7:=EC hwq c7;replace cs:=EC hwq cs;replace ck:=EC hwq ck;have HWq:=Lib.hid hwq;clear hwq;go_quiet (fail);obtain⟨wz,hwz⟩:∃wz,wz=wq.drewN nq:=⟨_,rfl⟩
   rw[←hwz];replace c0:=Bd hwz c0;replace c1:=Bd hwz c1;replace c2:=Bd hwz c2;replace c3:=Bd hwz c3;replace c4:=Bd hwz c4;replace c5:=Bd hwz c5;replace c6:=Bd hwz c6;replace c7:=Bd hwz c7;have HWwz:=Lib.hid hwz;clear hwz;have RVZ:Hid (wz.heap[w3.heap.size+1]?=some (.cells (BQ V) 350 (0,0))):=by show _=_;rw[HWwz.out,HWq.out];exact RV.out
   have HCZ:Hid (Ch (fun _=>False) w wz):=by show Ch _ _ _;rw[HWwz.out,HWq.out];exact HC.out.drew.drew.drew.drew.drew.drew.drewN _
   have HVW:Hid ((BQ V).size=8):=by show _=_;rw[Bf,HVL.out]
   go_wp2_with (first
    | ((with_reducible show zOq (.store 350 _ _));refine AE rfl 350 _ _ rfl (w3.heap.size+1) 0 _ rfl rfl RVZ.out (by rw[Dw];rfl) (by rw[HVW.out];exact Nat.le_refl _) (by intro v hv;simp at hv;rcases hv with rfl|rfl|rfl|rfl|rfl|rfl|rfl|rfl<;>rfl) _ (by rw[AI _ _ (by rw[Array.length_toList,Array.length_toList,HVW.out];rfl)]) ?_))
   go_roundg (64-(k+1))
   case measure=>omega
   have s3':=E3.out.2.2.1.size;have aux:∀ {j:Nat} {o:Obj},wr.heap[j]?=some o→j≠w3.heap.size+1→wz.heap[j]?=some o:=fun {j o} hj _=>by rw[HWwz.out,HWq.out];exact hj
   refine⟨k+1,by omega,rfl,by go_num,?_,row_setRow (by rw[HWwz.out,HWq.out];exact RS.out) (by omega) _,row_setRow (by rw[HWwz.out,HWq.out];exact RK.out) (by omega) _,row_setRow (by rw[HWwz.out,HWq.out];exact RH.out) (by omega) _,row_setRow (by rw[HWwz.out,HWq.out];exact RY.out) (by omega) _,HCZ.out.setRow (.inr (by omega)) _⟩;rw[AF RVZ.out,HN.out,Xn,WQ];rfl
 have h64:k=64:=by omega
 rw[h64] at rv;have hd:¬(k:Int)<64:=by omega
 have hVl:=Sha.DI (Sha.sched b) h HH.out 64;have hst:Sha.step h b=List.zipWith (· + ·) h (Sha.rounds (Sha.sched b) h 64):=rfl;obtain⟨V,hV⟩:∃V,V=Sha.rounds (Sha.sched b) h 64:=⟨_,rfl⟩
 rw[←hV] at rv hVl hst;rw[←H0.out.1] at rH;obtain⟨wo,hwo⟩:∃wo:World,wo=wr:=⟨_,rfl⟩
 subst hwo;have HST:=Lib.hid hst;have HVL:=Lib.hid hVl;have RV:=Lib.hid rv;have RH:=Lib.hid rH;have RY:=Lib.hid rY;have HC:=Lib.hid hch;clear hst hVl rv rS rK rH rY hch hV h64 hkl;go_wp2
 go_loopg [15] 8 (fun gg s15 wr=>∃i:Nat,i≤8∧gg=8-i∧s15=.int .i64 i∧wr.heap[w.heap.size]?=some (.cells (BQ (added h V i)) 350 (0,0)) ∧
  wr.heap[w3.heap.size+1]?=some (.cells (BQ V) 350 (0,0))∧wr.heap[w.heap.size+1]?=some (.cells Y 350 (0,0))∧Ch (fun _=>False) w wr)
 case atStart=>exact⟨0,Nat.zero_le _,rfl,rfl,RH.out,RV.out,RY.out,HC.out⟩
 obtain⟨i,hi,rfl,rfl,rh,rv,rY,hch⟩:=hrel;by_cases hil:i<8
 · have hal:=Iu h V i (by rw[HVL.out,HH.out]) (by rw[HH.out];omega)
   have c1:=AG rh (BS (l:=added h V i) (i:=i) (by rw[hal,HH.out];exact hil));have c2:=AG rv (BS (l:=V) (i:=i) (by rw[HVL.out];exact hil));rw[L9 h V i (by rw[HVL.out,HH.out]) (by rw[HH.out];exact hil)] at c1;have hsu:=J9 h V i (by rw[HVL.out,HH.out]) (by rw[HH.out];exact hil);generalize h.getD i 0=x1 at c1 hsu;generalize V.getD i 0=x2 at c2 hsu;have cf:=Ao rh i;have cl:=Ad rh;have hi1:(i:Int)≤7:=by omega
   have hi2:i≤7:=by omega
   have hi3:(i:Int)<8:=by omega
   have HSU:=Lib.hid hsu;have RH2:=Lib.hid rh;have RV2:=Lib.hid rv;have RY2:=Lib.hid rY;have HC2:=Lib.hid hch;clear hal hsu rh rv rY hch;go_wp2;go_still_tail 8,(by kernel_rfl)
   show wpList _ _ _ _ _ wr.drew
   go_wp2;go_roundg (8-(i+1))
   case measure=>omega
   have hws:=E3.out.2.2.1.size;refine⟨i+1,by omega,rfl,by go_num,?_,?_,?_,(HC2.out.setCell (p:=⟨w.heap.size,i,none⟩) (.inr (Nat.le_refl _)) _).drew⟩
   · refine AQ ?_
     have:=Aa RH2.out i (wv (wa x1 x2));rw[this,Od,HSU.out];rfl
   · exact AQ (Ak RV2.out (by simp only[ne_eq];omega) _)
   exact AQ (Ak RY2.out (by simp only[ne_eq];omega) _)
 have h8:i=h.length:=by rw[HH.out];omega
 have hd8:¬(i:Int)<8:=by omega
 rw[h8,LU h V (by rw[HVL.out,HH.out]), ←HST.out] at rh;have hsl:=Sha.EH h b HH.out;obtain⟨R,hR⟩:∃R,BQ (Sha.step h b)=R:=⟨_,rfl⟩
 have hRs:R.size=8:=by rw[←hR,Bf,hsl]
 have hR1:=CF (Sha.step h b);rw[hR] at rh hR1;have HR:=(hIq hR (aIq hRs hR1))
 have RH2:=Lib.hid rh;have RY2:=Lib.hid rY;have HC2:=Lib.hid hch;clear h8 hsl hR hRs hR1 rh rv rY hch hil
 go_wp2_with (first
  | ((with_reducible show zOq (.load 350 _));refine AK rfl 350 _ rfl w.heap.size 0 rfl RH2.out Tryz.underlying350 rfl Dw (by rw[HR.out.2.1];omega) R (by simp[←HR.out.2.1]) ?_)
  | ((with_reducible show zOq (.store 350 _ _));refine AE rfl 350 _ _ rfl (w.heap.size+1) 0 R rfl rfl RY2.out (by rw[Dw,HR.out.2.1]) (by rw[HR.out.2.1,Y0.out.2];omega) HR.out.2.2 R (by rw[AI _ _ (by rw[Array.length_toList,Array.length_toList,HR.out.2.1,Y0.out.2])]) ?_))
 exact AN (p:=4) rfl rfl (AF RY2.out _) Tryz.underlying350 rfl (by rw[Dw,HR.out.2.1]) rfl ⟨by rw[HR.out.1],HC2.out.setRow (.inr (by omega)) _⟩
end Go.Proofs.YtooijgcildbnlaaGreat.ShaW
namespace Go.Proofs.YtooijgcildbnlaaGreat.Store
open Go.RowKit Go.Proofs.YtooijgcildbnlaaGreat.ShaW Go.Proofs.YtooijgcildbnlaaGreat.Path
theorem Mr (x:UInt32):Sha.be4 x = [UInt8.ofNat (x.toNat / 16777216),UInt8.ofNat (x.toNat / 65536),UInt8.ofNat (x.toNat / 256),UInt8.ofNat x.toNat]:=by
 have h:∀(k:UInt32) (n:Nat),k.toNat=n→n<32→(x >>> k).toUInt8=UInt8.ofNat (x.toNat / 2 ^ n):=fun k n hk hn=>by
  apply UInt8.toNat.inj;rw[UInt32.toNat_toUInt8,UInt32.toNat_shiftRight,hk,Nat.mod_eq_of_lt hn,Nat.shiftRight_eq_div_pow,UInt8.toNat_ofNat']
 unfold Sha.be4
 have e0:x.toUInt8=UInt8.ofNat x.toNat:=by
  apply UInt8.toNat.inj;rw[UInt32.toNat_toUInt8,UInt8.toNat_ofNat']
 rw[h 24 24 rfl (by omega),h 16 16 rfl (by omega),h 8 8 rfl (by omega),e0]
theorem of8_congr {a b:Nat} (h:a % 256=b % 256):UInt8.ofNat a=UInt8.ofNat b:=by
 apply UInt8.toNat.inj;rw[UInt8.toNat_ofNat',UInt8.toNat_ofNat'];exact h
theorem PS (n:Nat) (h:n≤1125899906842000):Sha.len8 n = [UInt8.ofNat (n*8 / 72057594037927936),UInt8.ofNat (n*8 / 281474976710656),UInt8.ofNat (n*8 / 1099511627776),UInt8.ofNat (n*8 / 4294967296),UInt8.ofNat (n*8 / 16777216),UInt8.ofNat (n*8 / 65536),UInt8.ofNat (n*8 / 256),UInt8.ofNat (n*8)]:=by
 unfold Sha.len8;have e1:(UInt32.ofNat (n*8 / 4294967296)).toNat=n*8 / 4294967296:=by rw[UInt32.toNat_ofNat',Nat.mod_eq_of_lt (by omega)]
 have e2:(UInt32.ofNat (n*8)).toNat=n*8 % 4294967296:=by rw[UInt32.toNat_ofNat']
 rw[Mr,Mr,e1,e2];simp only[List.cons_append,List.nil_append]
 rw[of8_congr (a:=n*8 / 4294967296 / 16777216) (b:=n*8 / 72057594037927936) (by omega),of8_congr (a:=n*8 / 4294967296 / 65536) (b:=n*8 / 281474976710656) (by omega),of8_congr (a:=n*8 / 4294967296 / 256) (b:=n*8 / 1099511627776) (by omega),
  of8_congr (a:=n*8 % 4294967296 / 16777216) (b:=n*8 / 16777216) (by omega),of8_congr (a:=n*8 % 4294967296 / 65536) (b:=n*8 / 65536) (by omega),of8_congr (a:=n*8 % 4294967296 / 256) (b:=n*8 / 256) (by omega),of8_congr (a:=n*8 % 4294967296) (b:=n*8) (by omega)]
theorem V5 (l:List UInt8):(Sha.pad l).length % 64=0:=by
 unfold Sha.pad Sha.GU Sha.len8 Sha.be4;simp;omega
def EW (w0 w:World) (v:Value) (l:List UInt8):Prop:=(∃q qc,v=.slice q l.length qc∧w.ownsRow w0.heap.size 5 1 (.slice q l.length qc) l.length (l.map bv))∧Adds w0 w
section
variable {w0 w w' : World} {v : Value} {l : List UInt8}
theorem EW.adds (h:EW w0 w v l) (a:Adds w w'):EW w0 w' v l:=by
 obtain⟨⟨q,qc,h1,h2⟩,h3⟩:=h;exact⟨⟨q,qc,h1,a.owns h2 (fun _ _ h=>h)⟩,h3.trans a (fun _=>fEq)⟩
theorem EW.bytes (h:EW w0 w v l):Bytes w v l:=by
 obtain⟨⟨q,qc,rfl,h2⟩,h3⟩:=h;rcases h2.2 with⟨e,h0⟩|⟨g,cap,cur,e,_,hg,hn,hc,hs,ht⟩
 · have hl:l = []:=List.eq_nil_of_length_eq_zero h0
   subst hl;rw[e];exact Bytes.nil _
 cases e;refine⟨_,_,rfl,hn,hc,fun j x hx=>⟨g,0,rfl,?_⟩⟩;rw[Nat.zero_add];refine AG hg (DH ht ?_);rw[List.getElem?_map,hx];rfl
theorem TN (w:World):EW w (w.alloc (.cells #[] 5)) (.slice (some ⟨w.heap.size,0,none⟩) 0 0) [] :=
 ⟨⟨some ⟨w.heap.size,0,none⟩,0,rfl,by simp,.inr ⟨w.heap.size,0, #[],rfl,Nat.le_refl _,heap_alloc_new _ _,Nat.le_refl _,Nat.zero_le _,rfl,by simp⟩⟩,(Ch.refl _ _).alloc _⟩
theorem Kl {ops:Array Oper} {rest:List Oper} {o:Oper} {a:Act} {Q:Exit→Act→World→Prop} (hgd:o.guard=none) (s x:Operand)
 (ho:o.op=.call { callee:=.builtin .append,args:=#[s,x],argTypes:=#[73,73] }) (hm:EW w0 w v l) (hs:a.eval s=v) {ao:Option Addr} {m c:Nat} {bs:List UInt8} (hx:a.eval x=.slice ao m c) (hb:Bytes w (.slice ao m c) bs) (hl:l.length+bs.length≤100000000000)
 (h:∀v' w',EW w0 w' v' (l++bs)→w.grownBy w' v.ownBlock→wpList Tryz.prog ops Q rest (a.put o.dst v') w'):wpList Tryz.prog ops Q (o::rest) a w:=by
 obtain⟨⟨q,qc,rfl,h2⟩,h3⟩:=hm;obtain⟨hbl,hbx⟩:=hb.at;obtain⟨i8,p1,p2,p3,p4⟩:=Lq;have hlow:∀k,(Value.slice q l.length qc).ownBlock=some k→w0.heap.size≤k:=fun k hk=>(h2.lt k hk).1
 rcases Nat.eq_zero_or_pos m with h0|h0
 · have hnil:bs = []:=List.eq_nil_of_length_eq_zero (by omega)
   subst hnil;subst h0
   have hle:l.length≤qc:=by
    rcases h2.2 with⟨e,h1⟩|⟨g,cap,cur,e,_,_,h3,_⟩
    · omega
    injection e with _ _ e3;omega
   have hsrc:Src Tryz.prog i8.size 73 (.slice ao 0 c) 0 [] w:=by
    cases ao with
    | none=>exact Src.ofNil w Tryz.underlying73 c
    | some ad=>exact Src.ofSlice w Tryz.underlying73 ad 0 c [] (by simp) (fun j u hu=>by simp at hu) (fun u hu=>by cases hu)
   refine wpList_plain hgd fun _ hK=>?_
   have hrun:=run_append_nothing (P:=Tryz.prog) w 73 73 o.type 5 i8 Tryz.underlying73 p1 q l.length qc hle _ hsrc;unfold Oper.wp;simp[execOp,ho,resolve,invoke,builtin,hs,hx,hrun,Result.andThen];exact hK _ _ (h _ w (by rw[List.append_nil];exact⟨⟨q,qc,rfl,h2⟩,h3⟩) ⟨rfl,rfl,rfl,Nat.le_refl _,fun _ _ _=>rfl⟩)
 obtain⟨g,off,rfl,_⟩:=hbx 0 bs[0] (List.getElem?_eq_getElem (by omega));refine Ba hgd s x 73 ho 5 i8 (.int .u8 0) 1 1 Tryz.underlying73 p1 p2 p3 p4 rfl (by decide) (.slice q l.length qc) l.length (l.map bv) hs (h2.base (fun _ _=>Nat.zero_le _)) ⟨g,off,none⟩ m c (bs.map bv) hx (by rw[List.length_map,hbl];omega) (fun j u hu=>?_) (fun u hu=>?_) (by unfold maxLen;omega) (by omega) ?_
 · rw[List.getElem?_map] at hu
   cases hj:bs[j]? with
   | none=>rw[hj] at hu;cases hu
   | some y =>
    rw[hj] at hu;obtain rfl:=Option.some.inj hu;obtain⟨g',off',e,hc⟩:=hbx j y hj;cases e;rw[add_plain];exact hc
 · obtain⟨y,_,rfl⟩:=List.mem_map.1 hu
   rfl
 intro v' w' q1 q2 q3;obtain⟨qo,qc',rfl⟩:=Ar q1;refine h _ w' ⟨⟨qo,qc',?_,?_⟩,h3.grown q2 (fun k hk=>.inr (hlow k hk))⟩ q2
 · rw[List.length_append,hbl]
 have hb2:w'.ownsRow w0.heap.size 5 1 (.slice qo (l.length+m) qc') (l.length+m) (l.map bv++bs.map bv):=q1.base (fun k hk=>by
  rcases q3 with e|e
  · rw[e] at hk;exact hlow k hk
  have:=e k hk;have:=h3.size;omega)
 rw[List.length_append,List.map_append, ←hbl];exact hb2
theorem ED {ops:Array Oper} {rest:List Oper} {o:Oper} {a:Act} {Q:Exit→Act→World→Prop} (hgd:o.guard=none) (s x:Operand)
 (ho:o.op=.call { callee:=.builtin .append,args:=#[s,x],argTypes:=#[73,73] }) (hm:EW w0 w v l) (hs:a.eval s=v) (hx:a.eval x=.slice (some ⟨w.heap.size,0,none⟩) 1 1) {u:Value} (y:UInt8) (hu:u=bv y) (hl:l.length≤99999999999)
 (h:∀v' w',EW w0 w' v' (l ++ [y])→wpList Tryz.prog ops Q rest (a.put o.dst v') w'):wpList Tryz.prog ops Q (o::rest) a (w.alloc (.cells #[u] 5)):=by
 subst hu;refine Kl hgd s x ho (hm.adds ((Ch.refl _ _).alloc _)) hs hx (bs := [y]) ?_ (by simp;omega) (fun v' w' h1 _=>h v' w' h1);exact Bytes.row (bs := [y]) (heap_alloc_new w _) rfl (by unfold maxLen;omega)
end
end Go.Proofs.YtooijgcildbnlaaGreat.Store
