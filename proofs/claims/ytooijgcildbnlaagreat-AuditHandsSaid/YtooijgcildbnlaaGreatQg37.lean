/- Laws of the layers below. -/
import Derived.Test.YtooijgcildbnlaaGreatQg36
import Derived.Test.YtooijgcildbnlaaGreatQg25
import Derived.Lib.SliceRun
set_option maxHeartbeats 3200000
set_option maxRecDepth 100000
set_option linter.unusedVariables false
namespace Go.Proofs.YtooijgcildbnlaaGreat.Store
open Go.RowKit Go.Proofs.YtooijgcildbnlaaGreat.ShaW Go.Proofs.YtooijgcildbnlaaGreat.Path
theorem IQ:(Tryz.prog.info? 23).bind (·.zero)=some (.agg (AJ (List.replicate 32 0))):=by kernel_rfl
theorem C0:(Tryz.prog.info? 23).map (·.size)=some 32:=by kernel_rfl
theorem Xp (n d:Nat):Value.int .u8 ((n:Int)*8 / (d:Int) % 256)=bv (UInt8.ofNat (n*8 / d)):=by
 show _=Value.int .u8 _
 congr 1
theorem XV (n:Nat):Value.int .u8 ((n:Int)*8 % 256)=bv (UInt8.ofNat (n*8)):=by
 show _=Value.int .u8 _
 congr 1
theorem N8 {l:List UInt32} {q r:Nat} (hq:q<l.length) (hr:r<4):(l.flatMap Sha.be4)[4*q+r]?=some (UInt8.ofNat ((l.getD q 0).toNat / 2 ^ (24-8*r))):=by
 induction l generalizing q with
 | nil=>simp at hq
 | cons x l ih =>
  rw[List.flatMap_cons];have h4:(Sha.be4 x).length=4:=rfl;cases q with
  | zero =>
   rw[List.getElem?_append_left (by omega),Mr];rcases (show r=0∨r=1∨r=2∨r=3 by omega) with rfl|rfl|rfl|rfl<;>simp
  | succ q =>
   rw[List.getElem?_append_right (by omega),h4,show 4*(q+1)+r-4=4*q+r by omega,ih (by simpa using hq)];rfl
theorem Br (l:List UInt8) (i:Nat) (x:UInt8):(AJ l).setIfInBounds i (bv x)=AJ (l.set i x):=by
 apply Array.ext';simp[AJ,List.map_set]
theorem VR {D:List UInt8} (hD:D.length=32) {k:Nat} {y:UInt8} (hy:D[k]?=some y):(AJ (D.take k++List.replicate (32-k) 0)).setIfInBounds k (bv y)=AJ (D.take (k+1)++List.replicate (32-(k+1)) 0):=by
 have hk:=(List.getElem?_eq_some_iff.1 hy).1;rw[Br,List.set_append_right _ _ (by rw[List.length_take];omega),List.length_take,Nat.min_eq_left (by omega),Nat.sub_self,show 32-k=(32-(k+1))+1 by omega,List.replicate_succ,List.set_cons_zero,List.take_add_one,hy,Option.toList_some,List.append_assoc];rfl
theorem T5 (g n c i j:Nat) (hij:i<j) (hj:j≤c) (w0:World):(Instr.sliceAt 73 (.slice (some ⟨g,0,none⟩) n c) (some (.int .i64 (i:Int))) (some (.int .i64 (j:Int))) none).run Tryz.prog w0=.ok (.slice (some ⟨g,i,none⟩) (j-i) (c-i)) w0:=by
 have ht:Tryz.prog.underlying 73=some (.slice (Tryz.prog.elem 73)):=by kernel_rfl
 have hz:(sizeOf (Tryz.prog.elem 73)).run Tryz.prog w0=.ok 1 w0:=by kernel_rfl
 rw[run_sliceAt_slice w0 _ _ _ _ _ ht,run_slice_lh w0 _ (some ⟨g,0,none⟩) n c ht .i64 .i64 (i:Int) (j:Int) (by omega) (by omega) (by omega)];simp only[hz,Result.andThen_ok,sliced,Int.toNat_natCast];rw[if_neg (by omega),Option.map_some,Nat.mul_one,add_plain,Nat.zero_add]
theorem PM {w:World} {g n c:Nat} {bs:List UInt8} (hb:Bytes w (.slice (some ⟨g,0,none⟩) n c) bs) {i m:Nat} (h:i+m≤n) (hm:0<m):Bytes w (.slice (some ⟨g,i,none⟩) m (c-i)) ((bs.drop i).take m):=by
 obtain⟨_,_,e,hc,_,_⟩:=id hb;have h1:=Bytes.drop hb (i:=i) (by omega);have hl:=hb.at.1
 have e1:adv (some ⟨g,0,none⟩) c i=some ⟨g,i,none⟩:=by
  unfold adv;have hcc:n≤c:=by cases e;omega
  rw[if_neg (by omega),Option.map_some,Nat.mul_one,add_plain,Nat.zero_add]
 rw[e1] at h1;exact Bytes.take h1 (by omega)
section
variable {w : World}
theorem MK {ao:Option Addr} {n cap:Nat} {txt:List UInt8} (hb:Bytes w (.slice ao n cap) txt) (hn:n≤1000000) :
 Calls Tryz.prog 262 #[.slice ao n cap] w fun e w'=>e=.returned (.agg (AJ (Sha.sum txt)))∧Adds w w':=by
 obtain⟨hbl,_⟩:=hb.at;obtain⟨Z,hZ⟩:∃Z,Z=AJ (List.replicate 32 0):=⟨_,rfl⟩
 have hzd:=IQ;rw[←hZ] at hzd;obtain⟨Y,hY⟩:∃Y,DY 8=Y:=⟨_,rfl⟩
 have y0:=Th;have hYs:Y.size=8:=by rw[←hY];simp[DY]
 rw[hY] at y0;obtain⟨K0,hK0⟩:∃K0,K0=BQ Sha.h0:=⟨_,rfl⟩
 have hK1:∀v∈K0.toList,v.oneCell'=true:=by rw[hK0];exact CF _
 have HK0:=(hIq (by rw[hK0];rfl:K0.size=8) (aIq hK1 hK0))
 clear hK0 hK1;have HZ:=(hIq hzd (aIq (by rw[hZ];rfl:Z.size=32) hZ))
 have Y0:=(hIq y0 hYs)
 have HB:=(hIq hb hbl)
 clear hZ hzd hY y0 hYs hbl hb;go_enter Tryz.func262,Tryz.ntmps262
 go_upto_region 2 with(first
  | fail
  | ((with_reducible show zOq (.alloc 23));refine AH rfl 23 rfl (.agg Z) HZ.out.1 ?_;dsimp only[Value.cells];try simp only[World.size_alloc])
  | (at_builtin;refine Kl rfl _ _ rfl (TN (w.alloc (.cells Z 23))) (by first|rfl|(simp only[World.size_alloc];rfl)) rfl (HB.out.1.Am (((Ch.refl (fun _=>False) w).alloc _).alloc _) (fun _ _ h=>h)) (by simp;rw[←HB.out.2];omega) ?_;intro v1 w1 hm1 hg1))
 rw[List.nil_append] at hm1;obtain⟨W0,hW0⟩:∃W0,W0=w.alloc (.cells Z 23):=⟨_,rfl⟩
 have hr2:W0.heap[w.heap.size]?=some (.cells Z 23 (0,0)):=by rw[hW0];exact heap_alloc_new _ _
 have haw:Adds w W0:=by rw[hW0];exact(Ch.refl _ _).alloc _
 rw[←hW0] at hm1;have HW:=(hIq hr2 haw)
 have HM1:=Lib.hid hm1;clear hg1 hr2 haw hm1 hW0;obtain⟨zz,hzz⟩:∃zz,zz=Sha.GU txt.length:=⟨_,rfl⟩
 have hz64:zz≤63:=by rw[hzz];unfold Sha.GU;omega
 have hzt:∀j,j≤zz→((n+1+j) % 64=56↔j=zz):=fun j hj=>by
  rw[HB.out.2];unfold Sha.GU at hzz;omega
 have HZT:=(hIq hzt hzz)
 clear hzt hzz
 go_wp2_with (first
  | fail
  | (at_builtin;refine ED rfl _ _ rfl HM1.out rfl rfl 128 rfl (by rw[←HB.out.2];omega) ?_;intro v2 w2 hm2))
 have HM2:=Lib.hid hm2;clear hm2 HM1;go_loopg [3] zz (fun gg s3 wr=>∃j:Nat,j≤zz∧gg=zz-j∧EW W0 wr s3 (txt ++ [128]++List.replicate j 0))
 case atStart=>exact⟨0,Nat.zero_le _,rfl,by simpa using HM2.out⟩
 obtain⟨j,hj,rfl,hM⟩:=hrel;obtain⟨⟨q,qc,rfl,own⟩,ha⟩:=hM;obtain⟨m,hm⟩:∃m,m=(txt ++ [128]++List.replicate j 0).length:=⟨_,rfl⟩
 have HM:=Lib.hid (show EW W0 wr (.slice q (txt ++ [128]++List.replicate j 0).length qc) (txt ++ [128]++List.replicate j 0) from⟨⟨q,qc,rfl,own⟩,ha⟩);rw[←hm] at HM ⊢;have hm2:m=n+1+j:=by rw[hm,HB.out.2];simp;omega
 obtain⟨r,hr⟩:∃r,r=m % 64:=⟨_,rfl⟩
 have hT:Int.tmod (m:Int) 64=(r:Int):=by rw[hr,Int.tmod_eq_emod_of_nonneg (by omega)];omega
 have hE:(m:Int) % 64=(r:Int):=by rw[hr];omega
 have hz:=HZT.out.1 j hj;rw[←hm2, ←hr] at hz;have HR:=(hIq hr hz)
 have hm6:m≤1000064:=by omega
 have HML:=(hIq hm hm2)
 clear own ha hm hm2 hr hz;by_cases hjz:j=zz
 · have hr56:r=56:=HR.out.2.2 hjz
   subst hr56;subst hjz;clear hj;have HP:RowKit.Hid (EW W0 wr (.slice q m qc) (txt ++ [128]++List.replicate j 0)∧Sha.pad txt=txt ++ [128]++List.replicate j 0++Sha.len8 txt.length):=Lib.hid ⟨HM.out,by unfold Sha.pad;rw[←HZT.out.2]⟩;obtain⟨P,hP⟩:∃P,P=txt ++ [128]++List.replicate j 0:=⟨_,rfl⟩
   rw[←hP] at HP;have hPl:P.length=m:=by rw[hP];exact HML.out.1.symm
   have HPL:=Lib.hid hPl;obtain⟨L8,hL8⟩:∃L8,L8=Sha.len8 txt.length:=⟨_,rfl⟩
   rw[←hL8] at HP;have h8l:=PS txt.length (by rw[←HB.out.2];omega);rw[←hL8, ←HB.out.2] at h8l;have H8:=Lib.hid h8l;clear hP hPl hL8 h8l HM HR;go_wp2;go_loopg [3,5] 8 (fun gg s3 s5 wr=>∃i:Nat,i≤8∧gg=8-i∧s5=.int .i64 (7-(i:Int))∧EW W0 wr s3 (P++L8.take i))
   case atStart=>exact⟨0,Nat.zero_le _,rfl,rfl,by simpa using HP.out.1⟩
   obtain⟨i,hi,rfl,rfl,hM⟩:=hrel;obtain⟨⟨q,qc,rfl,own⟩,ha⟩:=hM;obtain⟨m',hm'⟩:∃m',m'=(P++L8.take i).length:=⟨_,rfl⟩
   have HM:=Lib.hid (show EW W0 wr (.slice q (P++L8.take i).length qc) (P++L8.take i) from⟨⟨q,qc,rfl,own⟩,ha⟩);rw[←hm'] at HM ⊢
   have hl9:m'≤1000200:=by
    have e1:m'=P.length+(L8.take i).length:=by rw[hm',List.length_append]
    have e2:(L8.take i).length≤8:=by rw[List.length_take];omega
    have:=HPL.out;omega
   have HML':=Lib.hid hm';clear own ha hm';by_cases hi8:i=8
   · subst hi8
     have hz:¬(0:Int)≤7-((8:Nat):Int):=by omega
     have hfull:RowKit.Hid (EW W0 wr (.slice q m' qc) (Sha.pad txt)∧m'=(Sha.pad txt).length):=Lib.hid (by
      have e:P++L8.take 8=Sha.pad txt:=by rw[HP.out.2,H8.out];rfl
      rw[←e];exact⟨HM.out,HML'.out⟩)
     clear hi HM HML'
     go_wp2_with (first
      | fail
      | ((with_reducible show zOq (.alloc 350));refine AH rfl 350 rfl (.agg Y) Y0.out.1 ?_;dsimp only[Value.cells];try simp only[World.size_alloc])
      | ((with_reducible show zOq (.build 350 _));refine wpList_build_is rfl 350 _ rfl K0 (by rw[HK0.out.2.2];kernel_rfl) ?_)
      | ((with_reducible show zOq (.store 350 _ _));refine AE rfl 350 _ _ rfl wr.heap.size 0 K0 rfl rfl (heap_alloc_new _ _) (by rw[Dw,HK0.out.1]) (by rw[HK0.out.1,Y0.out.2];omega) HK0.out.2.1 K0 (by rw[AI _ _ (by rw[Array.length_toList,Array.length_toList,HK0.out.1,Y0.out.2])]) ?_))
     obtain⟨w3,hw3⟩:∃w3,w3=(wr.alloc (.cells Y 350)).setRow wr.heap.size K0:=⟨_,rfl⟩
     rw[←hw3];have a3:Adds wr w3:=by rw[hw3];exact((Ch.refl _ _).alloc _).setRow (.inr (Nat.le_refl _)) _
     have r6:w3.heap[wr.heap.size]?=some (.cells (BQ Sha.h0) 350 (0,0)):=by rw[hw3, ←HK0.out.2.2];exact AF (heap_alloc_new _ _) _
     obtain⟨B6,hB6⟩:∃B,B=wr.heap.size:=⟨_,rfl⟩
     rw[←hB6] at r6 ⊢;have hpl:=V5 txt;obtain⟨Q,hQ⟩:∃Q,m'=64*Q:=⟨m' / 64,by have:=hfull.out.2;omega⟩
     have hby:=(hfull.out.1.adds a3).bytes;obtain⟨⟨q',qc',hq',own'⟩,ha'⟩:=hfull.out.1
     have hQ0:0<Q:=by
      have h1:=hfull.out.2;have h2:0<(Sha.pad txt).length:=by unfold Sha.pad;simp;omega
      omega
     obtain⟨g,cap',cur,eq,hg,_⟩:=BZ own' (by rw[←hfull.out.2];omega);rw[eq] at hq';injection hq' with e1 e2 e3;subst e1
     have hcq:m'≤qc:=by
      obtain⟨_,_,e,hc,_,_⟩:=id hby;cases e;rw[hfull.out.2];exact hc
     have hB:=(hIq hby (aIq hfull.out.2 (aIq r6 (aIq (HW.out.2.trans (ha'.trans a3 (fun _=>fEq)) (fun _=>fEq)) (aIq (a3.row (ha'.row HW.out.1 id) id) hB6)))))
     have hgB:g<B6:=by rw[hB6];exact(own'.lt g (by rw[eq];rfl)).2
     have hB6W:w.heap.size≤B6:=by rw[hB6];exact(HW.out.2.trans ha' (fun _=>fEq)).size
     have hrun0:Sha.words (Sha.pad txt)=Sha.run Sha.h0 Q (Sha.pad txt):=by unfold Sha.words;rw[←hfull.out.2,hQ,Nat.mul_div_cancel_left _ (by omega)]
     have HRUN:=Lib.hid hrun0;have hQ6:Q≤20000:=by omega
     have HQ:=Lib.hid hQ;have hne2:B6≠w.heap.size:=fun e=>by have:=Ad HW.out.1;have:=ha'.size;omega
     clear hby own' ha' hg eq e2 e3 hfull r6 a3 hw3 hpl hrun0 hB6 hQ;go_loopg [7] Q (fun gg s7 wr=>∃i:Nat,i≤Q∧gg=Q-i∧s7=.int .i64 (64*(i:Int))∧wr.heap[B6]?=some (.cells (BQ (Sha.run Sha.h0 i (Sha.pad txt))) 350 (0,0))∧Ch (fun k=>k=B6) w3 wr)
     case atStart=>exact⟨0,Nat.zero_le _,rfl,rfl,hB.out.2.2.1,Ch.refl _ _⟩
     obtain⟨i2,hi2,rfl,rfl,hrw,hch⟩:=hrel;by_cases hiq:i2<Q
     · have hl8:(Sha.run Sha.h0 i2 (Sha.pad txt)).length=8:=Sha.IA _ _ _ rfl
       have hsn:=Sha.NA i2 Sha.h0 (Sha.pad txt);obtain⟨H,hH⟩:∃H,H=Sha.run Sha.h0 i2 (Sha.pad txt):=⟨_,rfl⟩
       rw[←hH] at hrw hl8 hsn;have hsl:=fun w0=>T5 g m' qc (64*i2) (64*i2+64) (by omega) (by have:=HQ.out;omega) w0
       rw[show 64*i2+64-64*i2=64 by omega,show(((64*i2+64:Nat)):Int)=64*(i2:Int)+64 by omega,show((64*i2:Nat):Int)=64*(i2:Int) by omega] at hsl;have hst:=Tp (w:=wr.drew) H hl8 (PM ((hB.out.1.Am hch (fun k hk e=>by have hk':g=k:=(by simpa[Value.ownBlock] using hk);omega)).Am (Ch.refl (fun _=>False) wr).drew (fun _ _ h=>h)) (i:=64*i2) (m:=64) (by have:=HQ.out;omega) (by omega));rw[←hsn] at hst;obtain⟨X,hX⟩:∃X,X=BQ H:=⟨_,rfl⟩
       obtain⟨Y2,hY2⟩:∃Y2,Y2=BQ (Sha.run Sha.h0 (i2+1) (Sha.pad txt)):=⟨_,rfl⟩
       have hX8:X.size=8:=by rw[hX,Bf,hl8]
       have hY8:Y2.size=8:=by rw[hY2,Bf];exact Sha.IA _ _ _ rfl
       have hY1:∀v∈Y2.toList,v.oneCell'=true:=by rw[hY2];exact CF _
       rw[←hX, ←hY2] at hst;rw[←hX] at hrw;have HST:=Lib.hid hst;have HXY:=(hIq hrw (aIq hX8 (aIq hY8 (aIq hY1 (aIq hY2 hch)))))
       have hiz:64*(i2:Int)<((m':Nat):Int):=by have:=HQ.out;omega
       have HWR:=Lib.hid (IntWalk.i64_in (64*(i2:Int)+64) (by omega));have hwr:IntKind.i64.wrap (64*(i2:Int)+64)=64*(i2:Int)+64:=HWR.out;clear hst hX hX8 hY8 hY1 hY2 hrw hch hl8 hsn hH;go_wp2;refine Jg 7 (fun w0=>w0.heap[B6]?=some (.cells X 350 (0,0))) 8 [(0,1),(1,0),(2,0),(3,0),(4,0),(5,0),(6,2),(7,2)] (by kernel_rfl) (by kernel_rfl) ?_ ?_
       · exact AQ HXY.out.1
       refine Pf rfl rfl 350 _ rfl B6 0 8 rfl (fun w0 hS=>hS) Tryz.underlying350 rfl Dw (by rw[HXY.out.2.1];omega) X (by simp[←HXY.out.2.1]) ?_;simp only[Act.put,nAq,nBq,nCq]
       iterate 3
        refine Hr rfl rfl (fun w0=>(by go_simp;try rfl)) ?_;simp only[Act.put,nAq,nBq,nCq]
       refine Hr (v:=.int .i64 (64*(i2:Int)+64)) rfl rfl (fun w0=>(by go_simp;try rfl)) ?_;simp only[Act.put,nAq,nBq,nCq];refine Hr (v:=.slice (some ⟨g,64*i2,none⟩) 64 (qc-64*i2)) rfl rfl (fun w0=>(by have:=hsl w0;go_simp;try rfl)) ?_;simp only[Act.put,nAq,nBq,nCq];refine Nz rfl ?_;go_wp2_with fail;refine HST.out.mono ?_;rintro e w5 ⟨rfl,a5⟩;have H5:=(hIq (a5.row (AQ HXY.out.1) id) (show Adds wr w5 from(Ch.refl (fun _=>False) wr).drew.trans a5 (fun _=>fEq)))
       clear a5;dsimp only;go_step;refine wpList_nil ?_;refine⟨.inr H5.out.1,?_⟩;refine Nz rfl ?_
       go_wp2_with (first
        | fail
        | ((with_reducible show zOq (.store 350 _ _));go_must (refine AE rfl 350 _ _ rfl B6 0 Y2 rfl rfl H5.out.1 (by rw[Dw,HXY.out.2.2.1]) (by rw[HXY.out.2.2.1,HXY.out.2.1];omega) HXY.out.2.2.2.1 Y2 (by rw[AI _ _ (by rw[Array.length_toList,Array.length_toList,HXY.out.2.2.1,HXY.out.2.1])]) ?_)))
       refine⟨.inl rfl,?_⟩;refine Rx ?_;simp only[List.drop_succ_cons,List.drop_zero];go_wp2;refine NoPanic.normal ?_;go_wp2;go_roundg (Q-(i2+1))
       case measure=>omega
       refine⟨i2+1,by omega,rfl,?_,by rw[←HXY.out.2.2.2.2.1];exact AF H5.out.1 _,Ch.BN HXY.out.2.2.2.2.2 ((H5.out.2.mono (G:=fun k=>k=B6) (fun _ _ h=>h.elim)).setRow (.inl rfl) _)⟩
       first|rfl|(congr 1;omega)
     obtain rfl:i2=Q:=by omega
     have hiz:¬64*(i2:Int)<((m':Nat):Int):=by have:=HQ.out;omega
     rw[←HRUN.out] at hrw;have hwl:(Sha.words (Sha.pad txt)).length=8:=Sha.CR _;have hsum:Sha.sum txt=(Sha.words (Sha.pad txt)).flatMap Sha.be4:=rfl;obtain⟨V,hV⟩:∃V,V=Sha.words (Sha.pad txt):=⟨_,rfl⟩
     rw[←hV] at hrw hwl hsum;have hdl:(V.flatMap Sha.be4).length=32:=by rw[Cf,hwl]
     obtain⟨D,hD⟩:∃D,D=V.flatMap Sha.be4:=⟨_,rfl⟩
     have hdb:∀i,i<32→D[i]?=some (UInt8.ofNat ((V.getD (i / 4) 0).toNat / 2 ^ (24-8*(i % 4)))):=fun i hi=>by
      have:=N8 (l:=V) (q:=i / 4) (r:=i % 4) (by omega) (by omega);rw[show 4*(i / 4)+i % 4=i by omega] at this;rw[hD];exact this
     rw[←hD] at hdl hsum;have HV:=(hIq hrw (aIq hwl (aIq hdl (aIq hdb (aIq hsum hch)))))
     clear hrw hwl hsum hV hdl hD hdb hch hi2 hiq
     go_wp2_with (first
      | fail
      | ((with_reducible show zOq (.alloc 23));refine AH rfl 23 rfl (.agg Z) HZ.out.1 ?_;dsimp only[Value.cells];try simp only[World.size_alloc]))
     obtain⟨w4,hw4⟩:∃w4,w4=wr.alloc (.cells Z 23):=⟨_,rfl⟩
     rw[←hw4];have a4:Adds wr w4:=by rw[hw4];exact(Ch.refl _ _).alloc _
     have r8:w4.heap[wr.heap.size]?=some (.cells Z 23 (0,0)):=by rw[hw4];exact heap_alloc_new _ _
     obtain⟨B8,hB8⟩:∃B,B=wr.heap.size:=⟨_,rfl⟩
     rw[←hB8] at r8 ⊢;have hA4:Adds w w4:=(hB.out.2.2.2.1.trans HV.out.2.2.2.2.2 (fun k hk=>.inr (by cases hk;exact hB6W))).trans a4 (fun _=>fEq);have r6:=a4.row HV.out.1 id;have r2:=a4.row (HV.out.2.2.2.2.2.row hB.out.2.2.2.2.1 (fun e=>hne2 e.symm)) id;have hn68:B6≠B8:=by have:=Ad HV.out.1;omega
     have hn28:w.heap.size≠B8:=by have:=Ad (HV.out.2.2.2.2.2.row hB.out.2.2.2.2.1 (fun e=>hne2 e.symm));omega
     have hle8:w.heap.size≤B8:=by have:=Ad (HV.out.2.2.2.2.2.row hB.out.2.2.2.2.1 (fun e=>hne2 e.symm));omega
     have H4:=(hIq r8 (aIq r6 (aIq r2 hA4)))
     clear hw4 a4 r8 hB8 hA4 r6 r2;go_loopg [9] 32 (fun gg s9 wr=>∃k:Nat,k≤32∧gg=32-k∧s9=.int .i64 k∧wr.heap[B8]?=some (.cells (AJ (D.take k++List.replicate (32-k) 0)) 23 (0,0))∧wr.heap[B6]?=some (.cells (BQ V) 350 (0,0))∧wr.heap[w.heap.size]?=some (.cells Z 23 (0,0))∧Adds w wr)
     case atStart=>exact⟨0,Nat.zero_le _,rfl,rfl,by have:=H4.out.1;rw[HZ.out.2.2] at this;simpa using this,H4.out.2.1,H4.out.2.2.1,H4.out.2.2.2⟩
     obtain⟨k,hk,rfl,rfl,r8,r6,r2,ha⟩:=hrel;by_cases hk32:k<32
     · have hkz:(k:Int)<32:=by omega
       have c6:=AG r6 (BS (l:=V) (i:=k / 4) (by rw[HV.out.2.1];omega));have hy:=HV.out.2.2.2.1 k hk32;generalize V.getD (k / 4) 0=x at c6 hy;have hs:=VR HV.out.2.2.1 hy;have c8:∃v,(AJ (D.take k++List.replicate (32-k) 0))[k]?=some v:=⟨_,Array.getElem?_eq_getElem (by rw[AY,List.length_append,List.length_take,List.length_replicate,HV.out.2.2.1];omega)⟩
       obtain⟨old,hold⟩:=c8;have d8:=AG r8 hold;have f8:=Ao r8 k;have l8:=Ad r8;have HR8:=(hIq r8 (aIq r6 (aIq r2 (aIq ha hs))))
       clear r8 r6 r2 ha hs hold hy;rcases (show k % 4=0∨k % 4=1∨k % 4=2∨k % 4=3 by omega) with h4|h4|h4|h4
       · have hm2:(k:Int) % 4=0:=by omega
         have H4m:=Lib.hid h4;clear h4;go_wp2;go_roundg (32-(k+1))
         case measure=>omega
         have hsx:=HR8.out.2.2.2.2;rw[H4m.out] at hsx;refine⟨k+1,by omega,rfl,by go_num,?_,Ak HR8.out.2.1 hn68 _,Ak HR8.out.2.2.1 hn28 _,HR8.out.2.2.2.1.setCell (p:=⟨B8,k,none⟩) (.inr hle8) _⟩;rw[←hsx];have:=Aa HR8.out.1 k (bv (UInt8.ofNat (x.toNat / 2 ^ (24-8*0))))
         have e:bv (UInt8.ofNat (x.toNat / 2 ^ (24-8*0)))=Value.int .u8 (((x.toNat:Int) / 16777216) % 256):=by
          show Value.int .u8 _=_
          congr 1
         rw[←e];exact this
       · have hm2:(k:Int) % 4=1:=by omega
         have H4m:=Lib.hid h4;clear h4;go_wp2;go_roundg (32-(k+1))
         case measure=>omega
         have hsx:=HR8.out.2.2.2.2;rw[H4m.out] at hsx;refine⟨k+1,by omega,rfl,by go_num,?_,Ak HR8.out.2.1 hn68 _,Ak HR8.out.2.2.1 hn28 _,HR8.out.2.2.2.1.setCell (p:=⟨B8,k,none⟩) (.inr hle8) _⟩;rw[←hsx];have:=Aa HR8.out.1 k (bv (UInt8.ofNat (x.toNat / 2 ^ (24-8*1))))
         have e:bv (UInt8.ofNat (x.toNat / 2 ^ (24-8*1)))=Value.int .u8 (((x.toNat:Int) / 65536) % 256):=by
          show Value.int .u8 _=_
          congr 1
         rw[←e];exact this
       · have hm2:(k:Int) % 4=2:=by omega
         have H4m:=Lib.hid h4;clear h4;go_wp2;go_roundg (32-(k+1))
         case measure=>omega
         have hsx:=HR8.out.2.2.2.2;rw[H4m.out] at hsx;refine⟨k+1,by omega,rfl,by go_num,?_,Ak HR8.out.2.1 hn68 _,Ak HR8.out.2.2.1 hn28 _,HR8.out.2.2.2.1.setCell (p:=⟨B8,k,none⟩) (.inr hle8) _⟩;rw[←hsx];have:=Aa HR8.out.1 k (bv (UInt8.ofNat (x.toNat / 2 ^ (24-8*2))))
         have e:bv (UInt8.ofNat (x.toNat / 2 ^ (24-8*2)))=Value.int .u8 (((x.toNat:Int) / 256) % 256):=by
          show Value.int .u8 _=_
          congr 1
         rw[←e];exact this
       have hm2:(k:Int) % 4=3:=by omega
       have H4m:=Lib.hid h4;clear h4;go_wp2;go_roundg (32-(k+1))
       case measure=>omega
       have hsx:=HR8.out.2.2.2.2;rw[H4m.out] at hsx;refine⟨k+1,by omega,rfl,by go_num,?_,Ak HR8.out.2.1 hn68 _,Ak HR8.out.2.2.1 hn28 _,HR8.out.2.2.2.1.setCell (p:=⟨B8,k,none⟩) (.inr hle8) _⟩;rw[←hsx];have:=Aa HR8.out.1 k (bv (UInt8.ofNat (x.toNat / 2 ^ (24-8*3))))
       have e:bv (UInt8.ofNat (x.toNat / 2 ^ (24-8*3)))=Value.int .u8 ((x.toNat:Int) % 256):=by
        rw[show(24-8*3)=0 from rfl,Nat.pow_zero,Nat.div_one];rfl
       rw[←e];exact this
     obtain rfl:k=32:=by omega
     have hkz:¬((32:Nat):Int)<32:=by omega
     have hfin:D.take 32++List.replicate (32-32) 0=Sha.sum txt:=by
      rw[List.take_of_length_le (by rw[HV.out.2.2.1];omega),HV.out.2.2.2.2.1];simp
     rw[hfin] at r8;have hsl:(Sha.sum txt).length=32:=by rw[HV.out.2.2.2.2.1,HV.out.2.2.1]
     obtain⟨E,hE⟩:∃E,E=AJ (Sha.sum txt):=⟨_,rfl⟩
     have hE8:E.size=32:=by rw[hE,AY,hsl]
     have hE1:∀v∈E.toList,v.oneCell'=true:=by rw[hE];exact Aq _
     rw[←hE] at r8;have HE:=(hIq r8 (aIq r2 (aIq ha (aIq hE8 (aIq hE1 hE)))))
     clear r8 r6 r2 ha hfin hsl hE hE8 hE1 hk hk32
     go_wp2_with (first
      | fail
      | ((with_reducible show zOq (.load 23 _));refine AK rfl 23 _ rfl B8 0 rfl HE.out.1 Tryz.underlying23 rfl C0 (by rw[HE.out.2.2.2.1];omega) E (by simp[←HE.out.2.2.2.1]) ?_)
      | ((with_reducible show zOq (.store 23 _ _));refine AE rfl 23 _ _ rfl w.heap.size 0 E rfl rfl HE.out.2.1 (by rw[C0,HE.out.2.2.2.1]) (by rw[HE.out.2.2.2.1,HZ.out.2.1];omega) HE.out.2.2.2.2.1 E (by rw[AI _ _ (by rw[Array.length_toList,Array.length_toList,HE.out.2.2.2.1,HZ.out.2.1])]) ?_))
     exact AN (p:=2) rfl rfl (AF HE.out.2.1 _) Tryz.underlying23 rfl (by rw[C0,HE.out.2.2.2.1]) rfl ⟨by rw[HE.out.2.2.2.2.2],HE.out.2.2.1.setRow (.inr (Nat.le_refl _)) _⟩
   rcases (show i=0∨i=1∨i=2∨i=3∨i=4∨i=5∨i=6∨i=7 by omega) with rfl|rfl|rfl|rfl|rfl|rfl|rfl|rfl
   · clear hi hi8
     go_wp2_with (first
      | fail
      | (at_builtin;refine ED rfl _ _ rfl HM.out rfl rfl (UInt8.ofNat (n*8 / 72057594037927936)) (by show Value.int .u8 _=Value.int .u8 _;congr 1;rw[UInt8.toNat_ofNat'];omega) (by rw[←HML'.out];omega) ?_;intro v3 w3 hm3))
     go_roundg (7-0)
     case measure=>omega
     exact⟨1,by omega,rfl,by simp,by
      have e:P++L8.take 1=P++L8.take 0 ++ [UInt8.ofNat (n*8 / 72057594037927936)]:=by rw[H8.out,List.append_assoc];rfl
      rw[e];exact hm3⟩
   · clear hi hi8
     go_wp2_with (first
      | fail
      | (at_builtin;refine ED rfl _ _ rfl HM.out rfl rfl (UInt8.ofNat (n*8 / 281474976710656)) (by show Value.int .u8 _=Value.int .u8 _;congr 1;rw[UInt8.toNat_ofNat'];omega) (by rw[←HML'.out];omega) ?_;intro v3 w3 hm3))
     go_roundg (7-1)
     case measure=>omega
     exact⟨2,by omega,rfl,by simp,by
      have e:P++L8.take 2=P++L8.take 1 ++ [UInt8.ofNat (n*8 / 281474976710656)]:=by rw[H8.out,List.append_assoc];rfl
      rw[e];exact hm3⟩
   · clear hi hi8
     go_wp2_with (first
      | fail
      | (at_builtin;refine ED rfl _ _ rfl HM.out rfl rfl (UInt8.ofNat (n*8 / 1099511627776)) (by show Value.int .u8 _=Value.int .u8 _;congr 1;rw[UInt8.toNat_ofNat'];omega) (by rw[←HML'.out];omega) ?_;intro v3 w3 hm3))
     go_roundg (7-2)
     case measure=>omega
     exact⟨3,by omega,rfl,by simp,by
      have e:P++L8.take 3=P++L8.take 2 ++ [UInt8.ofNat (n*8 / 1099511627776)]:=by rw[H8.out,List.append_assoc];rfl
      rw[e];exact hm3⟩
   · clear hi hi8
     go_wp2_with (first
      | fail
      | (at_builtin;refine ED rfl _ _ rfl HM.out rfl rfl (UInt8.ofNat (n*8 / 4294967296)) (by show Value.int .u8 _=Value.int .u8 _;congr 1;rw[UInt8.toNat_ofNat'];omega) (by rw[←HML'.out];omega) ?_;intro v3 w3 hm3))
     go_roundg (7-3)
     case measure=>omega
     exact⟨4,by omega,rfl,by simp,by
      have e:P++L8.take 4=P++L8.take 3 ++ [UInt8.ofNat (n*8 / 4294967296)]:=by rw[H8.out,List.append_assoc];rfl
      rw[e];exact hm3⟩
   · clear hi hi8
     go_wp2_with (first
      | fail
      | (at_builtin;refine ED rfl _ _ rfl HM.out rfl rfl (UInt8.ofNat (n*8 / 16777216)) (by show Value.int .u8 _=Value.int .u8 _;congr 1;rw[UInt8.toNat_ofNat'];omega) (by rw[←HML'.out];omega) ?_;intro v3 w3 hm3))
     go_roundg (7-4)
     case measure=>omega
     exact⟨5,by omega,rfl,by simp,by
      have e:P++L8.take 5=P++L8.take 4 ++ [UInt8.ofNat (n*8 / 16777216)]:=by rw[H8.out,List.append_assoc];rfl
      rw[e];exact hm3⟩
   · clear hi hi8
     go_wp2_with (first
      | fail
      | (at_builtin;refine ED rfl _ _ rfl HM.out rfl rfl (UInt8.ofNat (n*8 / 65536)) (by show Value.int .u8 _=Value.int .u8 _;congr 1;rw[UInt8.toNat_ofNat'];omega) (by rw[←HML'.out];omega) ?_;intro v3 w3 hm3))
     go_roundg (7-5)
     case measure=>omega
     exact⟨6,by omega,rfl,by simp,by
      have e:P++L8.take 6=P++L8.take 5 ++ [UInt8.ofNat (n*8 / 65536)]:=by rw[H8.out,List.append_assoc];rfl
      rw[e];exact hm3⟩
   · clear hi hi8
     go_wp2_with (first
      | fail
      | (at_builtin;refine ED rfl _ _ rfl HM.out rfl rfl (UInt8.ofNat (n*8 / 256)) (Xp n 256) (by rw[←HML'.out];omega) ?_;intro v3 w3 hm3))
     go_roundg (7-6)
     case measure=>omega
     exact⟨7,by omega,rfl,by simp,by
      have e:P++L8.take 7=P++L8.take 6 ++ [UInt8.ofNat (n*8 / 256)]:=by rw[H8.out,List.append_assoc];rfl
      rw[e];exact hm3⟩
   clear hi hi8
   go_wp2_with (first
    | fail
    | (at_builtin;refine ED rfl _ _ rfl HM.out rfl rfl (UInt8.ofNat (n*8)) (XV n) (by rw[←HML'.out];omega) ?_;intro v3 w3 hm3))
   go_roundg (7-7)
   case measure=>omega
   exact⟨8,by omega,rfl,by simp,by
    have e:P++L8.take 8=P++L8.take 7 ++ [UInt8.ofNat (n*8)]:=by rw[H8.out,List.append_assoc];rfl
    rw[e];exact hm3⟩
 have hr56:¬r=56:=fun e=>hjz (HR.out.2.1 e)
 have hr56':¬(r:Int)=56:=by omega
 have hb56:((r:Int) != 56)=true:=by simpa using hr56'
 clear hr56
 go_wp2_with (first
  | fail
  | (at_builtin;refine ED rfl _ _ rfl HM.out rfl rfl 0 rfl (by rw[←HML.out.1];omega) ?_;intro v3 w3 hm3))
 go_roundg (zz-(j+1))
 case measure=>omega
 exact⟨j+1,by omega,rfl,by rw[List.replicate_succ', ←List.append_assoc];exact hm3⟩
end
theorem XY (y:UInt8) (w:World):EW w (w.alloc (.cells #[bv y] 5)) (.slice (some ⟨w.heap.size,0,none⟩) 1 1) [y] :=
 ⟨⟨some ⟨w.heap.size,0,none⟩,1,rfl,by simp,.inr ⟨w.heap.size,1, #[bv y],rfl,Nat.le_refl _,heap_alloc_new _ _,Nat.le_refl _,by unfold maxLen;simp,rfl,by simp⟩⟩,(Ch.refl _ _).alloc _⟩
theorem Jz {w:World} (t:UInt8) {v:Value} {ps:List (List UInt8)} (hp:Tag.GR w v ps) (hlen:ps.flatten.length≤999999) (hn:ps.length≤1000) :
 Calls Tryz.prog 285 #[bv t,v] w fun e w'=>∃v',e=.returned v'∧EW w w' v' (t::ps.flatten):=by
 obtain⟨ao,cap,rfl,hps⟩:=hp;have HPS:=Lib.hid hps;have HLEN:=Lib.hid hlen;clear hps hlen;go_enter Tryz.func285,Tryz.ntmps285;go_wp2_with fail;have H0:=Lib.hid (XY t w);go_loopg [5,6] ps.length (fun g s5 s6 wr=>∃i:Nat,i≤ps.length∧g=ps.length-i∧s6=.int .i64 i∧EW w wr s5 (t::(ps.take i).flatten))
 case atStart=>exact⟨0,Nat.zero_le _,rfl,rfl,by simpa using H0.out⟩
 obtain⟨i,hi,rfl,rfl,hM⟩:=hrel;obtain⟨l,hl⟩:∃l,l=t::(ps.take i).flatten:=⟨_,rfl⟩
 rw[←hl] at hM;obtain⟨⟨q,qc,rfl,own⟩,ha⟩:=hM;have HM:=Lib.hid (show EW w wr (.slice q l.length qc) l from⟨⟨q,qc,rfl,own⟩,ha⟩);obtain⟨m,hm⟩:∃m,m=l.length:=⟨_,rfl⟩
 rw[←hm] at HM ⊢;by_cases hil:i<ps.length
 · obtain⟨p,hp⟩:∃p,ps[i]?=some p:=⟨_,List.getElem?_eq_getElem hil⟩
   obtain⟨g,off,x,rfl,hc,hb,hk⟩:=HPS.out i p hp;have c1:=ha.cell hc id;have hbr:=hb.Am ha (fun _ _ h=>h);obtain⟨xo,xc,rfl,_,_⟩:=hb.form;obtain⟨xn,hxn⟩:∃xn,xn=p.length:=⟨_,rfl⟩
   rw[←hxn] at hbr c1;have hi1:(i:Int)<(ps.length:Int):=by omega
   have hi2:(i:Int)≤1000:=by omega
   have hi3:i≤1000:=by omega
   have hfl:l.length+p.length≤100000000000:=by
    have h1:=HLEN.out;have h2:=Tag.Gz hp;rw[hl];simp only[List.length_cons];omega
   have htk:t::(ps.take (i+1)).flatten=l++p:=by
    rw[List.take_add_one,hp,hl];simp
   have HB:=Lib.hid hbr;have HFL:=Lib.hid hfl;have HTK:=Lib.hid htk;clear hp hc hb hbr hk hfl htk own ha hl hm hxn
   go_wp2_with (first
    | fail
    | (at_builtin;refine Kl rfl _ _ rfl HM.out rfl rfl HB.out HFL.out ?_;intro v2 w2 hm2 hg2))
   have HM2:=Lib.hid hm2;clear hm2 hg2;go_wp2;go_roundg (ps.length-(i+1))
   case measure=>omega
   exact⟨i+1,by omega,rfl,by go_num,by rw[HTK.out];exact HM2.out⟩
 have hil':i=ps.length:=by omega
 have hd:decide (i<ps.length)=false:=by simp;omega
 have hd':decide ((i:Int)<(ps.length:Int))=false:=by simp;omega
 rw[hil',List.take_length] at hl;subst hl;clear hil' hil own ha hm;go_wp2;exact⟨rfl,.slice q m qc,(by simp[results,Tryz.f285,go_sem]),.slice q m qc,rfl,HM.out⟩
theorem _root_.Go.Proofs.YtooijgcildbnlaaGreat.Tag.GR.adds {w w':World} {v:Value} {ps:List (List UInt8)} (h:Tag.GR w v ps) (a:Adds w w'):Tag.GR w' v ps:=by
 obtain⟨ao,cap,rfl,hps⟩:=h;refine⟨ao,cap,rfl,fun i p hp=>?_⟩;obtain⟨g,off,x,e,hc,hb,hk⟩:=hps i p hp;exact⟨g,off,x,e,a.cell hc id,hb.Am a (fun _ _ h=>h),fun h0 k h=>Nat.lt_of_lt_of_le (hk h0 k h) a.size⟩
theorem UU {w:World} (t:UInt8) {v:Value} {ps:List (List UInt8)} (hp:Tag.GR w v ps) (hlen:ps.flatten.length≤999999) (hn:ps.length≤1000) :
 Calls Tryz.prog 248 #[bv t,v] w fun e w'=>e=.returned (.agg (AJ (Tag.digest t ps)))∧Adds w w':=by
 have hv:∃ao cap,v=.slice ao ps.length cap:=by obtain⟨ao,cap,rfl,_⟩:=hp;exact⟨_,_,rfl⟩
 obtain⟨ao,cap,rfl⟩:=hv;obtain⟨Z,hZ⟩:∃Z,Z=AJ (List.replicate 32 0):=⟨_,rfl⟩
 have hzh:=IQ;rw[←hZ] at hzh;have hZs:Z.size=32:=by rw[hZ];rfl
 obtain⟨O,hO⟩:∃O,O=AJ (Tag.digest t ps):=⟨_,rfl⟩
 have hos:O.size=32:=by rw[hO,AY];exact Tag.Ab _ _
 have ho1:=Aq (Tag.digest t ps);rw[←hO] at ho1;have a0:Adds w (w.alloc (.cells Z 23)):=(Ch.refl _ _).alloc _;have HT:=Lib.hid (Jz t (hp.adds a0) hlen hn);have HZ:=(hIq hzh hZs)
 have HO:=(hIq hO (aIq hos ho1))
 have HL:=Lib.hid hlen;clear hzh hZs hZ hO hos ho1 hp hlen;go_enter Tryz.func248,Tryz.ntmps248;go_wp2_with (first|fail|((with_reducible show zOq (.alloc 23));refine AH rfl 23 rfl (.agg Z) HZ.out.1 ?_;dsimp only[Value.cells];try simp only[World.size_alloc]));refine HT.out.mono ?_;rintro e w1 ⟨v1,rfl,hB⟩;have hz1:=hB.2.row (heap_alloc_new w (.cells Z 23)) id;have hw1:=((Ch.refl (fun _=>False) w).alloc (.cells Z 23)).trans hB.2 (fun _=>fEq);have hlx:(t::ps.flatten).length≤1000000:=by have:=HL.out;simp only[List.length_cons];omega
 have hbb:=hB.bytes;obtain⟨⟨q,qc,rfl,_⟩,_⟩:=hB;obtain⟨m,hm⟩:∃m,m=(t::ps.flatten).length:=⟨_,rfl⟩
 rw[←hm] at hbb ⊢;have hsum:=MK hbb (by omega);rw[show AJ (Sha.sum (t::ps.flatten))=O from HO.out.1.symm] at hsum;have HS:=Lib.hid hsum;have Z1:=Lib.hid hz1;have W1:=Lib.hid hw1;clear hz1 hw1 hlx hbb hm hsum;go_wp2_with fail;refine HS.out.mono ?_;rintro e w4 ⟨rfl,hc4⟩;have hz4:=hc4.row Z1.out id;have hw4:=W1.out.trans hc4 (fun _=>fEq);have Z4:=Lib.hid hz4;have W4:=Lib.hid hw4;clear hc4 hz4 hw4
 go_wp2_with (first
  | ((with_reducible show zOq (.store 23 _ _));refine AE rfl 23 _ _ rfl w.heap.size 0 O rfl rfl Z4.out (by rw[C0,HO.out.2.1]) (by rw[HO.out.2.1,HZ.out.2];omega) HO.out.2.2 O (by rw[AI _ _ (by rw[Array.length_toList,Array.length_toList,HO.out.2.1,HZ.out.2])]) ?_))
 exact AN (p:=4) rfl rfl (AF Z4.out _) Tryz.underlying23 rfl (by rw[C0,HO.out.2.1]) rfl ⟨by rw[HO.out.1],W4.out.setRow (.inr (Nat.le_refl _)) _⟩
theorem Lm (w:World):Calls Tryz.prog 185 #[] w fun e w'=>e=.returned (.agg (AJ Tag.CY))∧Ch (fun _=>False) w w':=by
 obtain⟨Z,hZ⟩:∃Z,Z=AJ (List.replicate 32 0):=⟨_,rfl⟩
 have hzh:=IQ;rw[←hZ] at hzh;have hZs:Z.size=32:=by rw[hZ];rfl
 obtain⟨O,hO⟩:∃O,O=AJ Tag.CY:=⟨_,rfl⟩
 have hos:O.size=32:=by rw[hO,AY];exact Tag.Ab _ _
 have ho1:=Aq Tag.CY;have hcall:=fun w=>UU (w:=w) 0 (v:=.slice none 0 0) (ps := []) ⟨none,0,rfl,fun i p h=>by simp at h⟩ (by simp) (by simp)
 rw[←hO] at ho1;rw[show AJ (Tag.digest 0 [])=O from hO.symm] at hcall;have HC:=Lib.hid hcall;have HZ:=(hIq hzh hZs)
 have HO:=(hIq hO (aIq hos ho1))
 clear hzh hZs hZ hO hos ho1 hcall;go_enter Tryz.func185,Tryz.ntmps185;go_wp2_with (first|((with_reducible show zOq (.alloc 23));refine AH rfl 23 rfl (.agg Z) HZ.out.1 ?_;dsimp only[Value.cells];try simp only[World.size_alloc]));refine(HC.out _).mono ?_;rintro e w4 ⟨rfl,hc4⟩;have hz4:=hc4.row (heap_alloc_new w (.cells Z 23)) id;have hw4:=((Ch.refl (fun _=>False) w).alloc (.cells Z 23)).trans hc4 (fun _=>fEq);have Z4:=Lib.hid hz4;have W4:=Lib.hid hw4;clear hc4 hz4 hw4
 go_wp2_with (first
  | ((with_reducible show zOq (.store 23 _ _));refine AE rfl 23 _ _ rfl w.heap.size 0 O rfl rfl Z4.out (by rw[C0,HO.out.2.1]) (by rw[HO.out.2.1,HZ.out.2];omega) HO.out.2.2 O (by rw[AI _ _ (by rw[Array.length_toList,Array.length_toList,HO.out.2.1,HZ.out.2])]) ?_))
 exact AN (p:=0) rfl rfl (AF Z4.out _) Tryz.underlying23 rfl (by rw[C0,HO.out.2.1]) rfl ⟨by rw[HO.out.1],W4.out.setRow (.inr (Nat.le_refl _)) _⟩
theorem KU {w:World} {v:Value} {bs:List UInt8} (hb:Bytes w v bs) (hk:bs ≠ []→∀k,v.ownBlock=some k→k<w.heap.size) (hlen:bs.length≤999999):Calls Tryz.prog 211 #[v] w fun e w'=>e=.returned (.agg (AJ (Tag.BC bs)))∧Ch (fun _=>False) w w':=by
 obtain⟨Z,hZ⟩:∃Z,Z=AJ (List.replicate 32 0):=⟨_,rfl⟩
 have hzh:=IQ;rw[←hZ] at hzh;have hZs:Z.size=32:=by rw[hZ];rfl
 obtain⟨O,hO⟩:∃O,O=AJ (Tag.BC bs):=⟨_,rfl⟩
 have hos:O.size=32:=by rw[hO,AY];exact Tag.Ab _ _
 have ho1:=Aq (Tag.BC bs);obtain⟨ao,cap,rfl,_,_⟩:=hb.form
 have hp:Tag.GR ((w.alloc (.cells Z 23)).alloc (.cells #[.slice ao bs.length cap] 73)) (.slice (some ⟨w.heap.size+1,0,none⟩) 1 1) [bs]:=by
  refine⟨_,1,rfl,fun i p h=>?_⟩
  match i,h with
  | 0,h =>
   simp at h;subst h;refine⟨w.heap.size+1,0,.slice ao bs.length cap,rfl,?_,hb.Am (((Ch.refl (fun _=>False) w).alloc _).alloc _) (fun _ _ h=>h),fun h0 k h=>by have:=hk h0 k h;simp;omega⟩;have:=heap_alloc_new (w.alloc (.cells Z 23)) (.cells #[.slice ao bs.length cap] 73);rw[World.size_alloc] at this;exact AG this rfl
  | i+1,h=>simp at h
 have hcall:=UU 3 hp (by simpa using hlen) (by simp);rw[←hO] at ho1;rw[show AJ (Tag.digest 3 [bs])=O from hO.symm] at hcall;have HC:=Lib.hid hcall;have HZ:=(hIq hzh hZs)
 have HO:=(hIq hO (aIq hos ho1))
 clear hzh hZs hZ hO hos ho1 hcall hp hb hk hlen;go_enter Tryz.func211,Tryz.ntmps211;go_wp2_with (first|((with_reducible show zOq (.alloc 23));refine AH rfl 23 rfl (.agg Z) HZ.out.1 ?_;dsimp only[Value.cells];try simp only[World.size_alloc]));refine HC.out.mono ?_;rintro e w4 ⟨rfl,hc4⟩;have hz4:=hc4.row (AM (heap_alloc_new w (.cells Z 23)) _) id;have hw4:=(((Ch.refl (fun _=>False) w).alloc (.cells Z 23)).alloc (.cells #[.slice ao bs.length cap] 73)).trans hc4 (fun _=>fEq);have Z4:=Lib.hid hz4;have W4:=Lib.hid hw4;clear hc4 hz4 hw4
 go_wp2_with (first
  | ((with_reducible show zOq (.store 23 _ _));refine AE rfl 23 _ _ rfl w.heap.size 0 O rfl rfl Z4.out (by rw[C0,HO.out.2.1]) (by rw[HO.out.2.1,HZ.out.2];omega) HO.out.2.2 O (by rw[AI _ _ (by rw[Array.length_toList,Array.length_toList,HO.out.2.1,HZ.out.2])]) ?_))
 exact AN (p:=2) rfl rfl (AF Z4.out _) Tryz.underlying23 rfl (by rw[C0,HO.out.2.1]) rfl ⟨by rw[HO.out.1],W4.out.setRow (.inr (Nat.le_refl _)) _⟩
end Go.Proofs.YtooijgcildbnlaaGreat.Store
