/- Laws of the layers below. -/
import Derived.Test.YtooijgcildbnlaaGreatQh36
set_option maxHeartbeats 3200000
set_option maxRecDepth 100000
set_option linter.unusedVariables false
namespace Go.Proofs.YtooijgcildbnlaaGreat.Law15
open Go.RowKit Go.Sort Go.Proofs.YtooijgcildbnlaaGreat.ShaW Go.Proofs.YtooijgcildbnlaaGreat.Path Go.Proofs.YtooijgcildbnlaaGreat.Store Go.Proofs.YtooijgcildbnlaaGreat.BW Go.Proofs.YtooijgcildbnlaaGreat.Law14
def Dr:List UInt8 := [107,101,112,116,45,97,115,45,105,116,45,115,116,111,111,100]
def QF:List UInt8 := [97,97,97,97,97,97,97,97,97,97,97,97,97,97,97,97,97,97,97,97]
theorem Qp:CL Dr=true:=by decide
theorem Qf:CL QF=true:=by decide
theorem Fp:Dr.length≤maxLen:=by unfold maxLen;decide
theorem O8:QF.length≤maxLen:=by unfold maxLen;decide
theorem NV:∀ {M:Nmd},(Dx M).Nodup→∀ {p q:List UInt8×Int×AO},p∈M→q∈M→p.1=q.1→p=q
 | [],_,p,q,hp,_,_=>by cases hp
 | r::M,hn,p,q,hp,hq,e=>by
  obtain⟨n1,n2⟩:=List.nodup_cons.1 (show(r.1::Dx M).Nodup from hn);rcases List.mem_cons.1 hp with rfl|hp'
  · rcases List.mem_cons.1 hq with rfl|hq'
    · rfl
    exact absurd (by rw[e];exact List.mem_map_of_mem hq') n1
  rcases List.mem_cons.1 hq with rfl|hq'
  · exact absurd (by rw[←e];exact List.mem_map_of_mem hp') n1
  exact NV n2 hp' hq' e
structure It (w0 w:World) (d v s:Nat) (M:Nmd) (σ:AA Nd) (root:Int) (L:AO) (tn:Nat):Prop where
 dct:Dct w0 w d v s (fun _=>False) 60000 σ root L M tn
 few:M.length≤16
theorem It.act {w0 w w':World} {d v s:Nat} {M:Nmd} {σ:AA Nd} {root:Int} {L:AO} {tn:Nat} (h:It w0 w d v s M σ root L tn) {a:CP} {e:Ending} (hp:Px w0 w d v s (fun _=>False) 60000 σ M tn a e w') :
 e=.returned (.tuple #[])∧∃σ' r L' M',It w0 w' d v s M' σ' r L' (tn+60000)∧∀p∈M,p.1≠a.nm→p∈M':=by
 obtain⟨he,σ',r,L',M',hs,hk⟩:=hp;exact⟨he,σ',r,L',M',⟨hs.dct,hk.few h.few⟩,hk.stay⟩
theorem Ns:Tryz.prog.underlying 73=some (.slice (Tryz.prog.elem 73)):=by kernel_rfl
theorem Tk:(Tryz.prog.info? (Tryz.prog.elem 73)).map (·.size)=some 1:=by kernel_rfl
theorem Pj (w:World):(sizeOf (Tryz.prog.elem 73)).run Tryz.prog w=.ok 1 w:=by
 have hs:=Tk;cases hq:Tryz.prog.info? (Tryz.prog.elem 73) with
 | none=>rw[hq] at hs;cases hs
 | some inf =>
  rw[hq] at hs;have hs':inf.size=1:=by simpa using hs
  simp[sizeOf,typeInfo,hq,hs']
theorem Qx (w:World) (ao:Option Addr) (len cap i:Nat) (hi:i≤cap) :
 (Instr.sliceAt 73 (.slice ao len cap) none (some (.int .i64 (i:Int))) none).run Tryz.prog w=.ok (.slice ao i cap) w:=by
 rw[run_sliceAt_slice w _ _ _ _ _ Ns,run_slice_h w _ ao len cap Ns .i64 (i:Int) (by omega) (by omega)];simp only[Pj w,Result.andThen_ok,sliced,Int.toNat_natCast]
 have e:(if cap-0=0 then ao else ao.map (·.add (0*1)))=ao:=by
  split
  · rfl
  cases ao with
  | none=>rfl
  | some a=>rfl
 first|(rw[e];rfl)|simp_all
theorem Rx {W:World} {ao bo:Option Addr} {l m:List CP} (cap cap2:Nat) (hl:GL W ao l) (hm:GL W bo m) (hla:∀a∈l,a.l.length*56≤140737488351232) (hma:∀a∈m,a.l.length*56≤140737488351232) (hll:l.length≤140737488351232) (hml:m.length≤140737488351232) {key:List UInt8} (hk:key.length=32) {vo:Option Addr} {vc:Nat} {bs:List UInt8} (hb:Bytes W (.slice vo bs.length vc) bs) (hvb:bs ≠ []→∀j,(Value.slice vo bs.length vc).ownBlock=some j→j<W.heap.size) :
 Calls Tryz.prog 5 #[.slice ao l.length cap,.agg (AJ key),.slice vo bs.length vc,.slice bo m.length cap2] W fun e w'=>e=.returned (.bool true)∧Adds W w':=by
 obtain⟨K,hK⟩:∃K,K=AJ key:=⟨_,rfl⟩
 have hks:K.size=32:=by rw[hK,AK,hk]
 have HK:=(hIq hks hK)
 obtain⟨len,hlen⟩:∃n,n=l.length:=⟨_,rfl⟩
 obtain⟨mlen,hmlen⟩:∃n,n=m.length:=⟨_,rfl⟩
 obtain⟨bn,hbn⟩:∃n,n=bs.length:=⟨_,rfl⟩
 have HL:=(hIq hl (aIq hla (aIq hll hlen)))
 have HM:=(hIq hm (aIq hma (aIq hml hmlen)))
 have HB:=(hIq hb hbn)
 have HB1:RowKit.Hid (bs.take 1024 ≠ []→∀n j,(Value.slice vo n vc).ownBlock=some j→j<W.heap.size):=Lib.hid (fun h0 n j hj=>hvb (fun e=>h0 (by rw[e];rfl)) j (by cases vo with|none=>cases hj|some a=>exact hj));clear hvb;rw[←hK, ←hlen, ←hmlen, ←hbn];clear hks hK hl hla hll hlen hm hma hml hmlen hb hbn;go_enter Tryz.func5,Tryz.ntmps5;go_upto_region 1 with fail;refine Bs (fun w0 hw0=>?_);have a0:Adds W w0:=by rw[hw0];exact(Ch.refl _ _).alloc _
 have r0:w0.heap[W.heap.size]?=some (.cells K 24 (0,0)):=by rw[hw0];exact heap_alloc_new _ _
 have A0:=(hIq a0 (aIq r0 (aIq (HL.out.1.Ae a0 (fun _=>fEq)) (HM.out.1.Ae a0 (fun _=>fEq)))))
 clear a0 r0 hw0;go_wp2_with fail;refine(R8 60000 w0 (by decide) (by decide)).mono ?_;rintro e w1 ⟨d,v,s,rfl,hd⟩;have HD:=Lib.hid hd;clear hd;go_upto_region 5 with fail;go_wp2_with fail;go_loopg [11] (len+1) (fun g s11 wr=>∃k σ root L M,s11=.int .i64 ((k:Nat):Int)∧k+g=len+1∧k≤len∧k≤20∧It w0 wr d v s M σ root L (60000*k))
 case atStart=>exact⟨0,_,_,_,_,rfl,by omega,by omega,by omega,⟨HD.out,by decide⟩⟩
 obtain⟨k,σ,root,L,M,rfl,hk,hkl,hk20,hbt⟩:=hrel;have HS:=(hIq hbt (aIq hk (aIq hkl hk20)))
 clear hbt hk hkl hk20
 iterate 2 go_step
 go_cut [47] (fun s47 wx=>s47=.bool (decide (k<len∧k<20))∧wx=wr)
 case first =>
  by_cases h1:k<len
  · have h1':(k:Int)<(len:Int):=by omega
    have h1'':decide ((k:Int)<(len:Int))=true:=decide_eq_true h1';by_cases h2:k<20
    · have h2':(k:Int)<20:=by omega
      have h2'':decide ((k:Int)<20)=true:=decide_eq_true h2';have h3:decide (k<len∧k<20)=true:=decide_eq_true ⟨h1,h2⟩;have H3:=Lib.hid h3;clear h3;go_wp2;go_meet;exact⟨by rw[H3.out],rfl⟩
    have h2':¬(k:Int)<20:=by omega
    have h2'':decide ((k:Int)<20)=false:=decide_eq_false h2';have h3:decide (k<len∧k<20)=false:=decide_eq_false (fun h=>h2 h.2);have H3:=Lib.hid h3;clear h3;go_wp2;go_meet;exact⟨by rw[H3.out],rfl⟩
  have h1':¬(k:Int)<(len:Int):=by omega
  have h1'':decide ((k:Int)<(len:Int))=false:=decide_eq_false h1';have h3:decide (k<len∧k<20)=false:=decide_eq_false (fun h=>h1 h.1);have H3:=Lib.hid h3;clear h3;go_wp2;go_meet;exact⟨by rw[H3.out],rfl⟩
 obtain⟨rfl,rfl⟩:=hcut;by_cases hc:k<len∧k<20
 · rw[decide_eq_true hc]
   have hwk:wrap64 ((k:Int)+1)=(k:Int)+1:=by unfold wrap64;omega
   have hx1:(k:Int)<(len:Int):=by omega
   have hx1':k<len:=hc.1;obtain⟨x,hx⟩:∃x,l[k]?=some x:=⟨_,List.getElem?_eq_getElem (by have:=HL.out.2.2.2;omega)⟩
   obtain⟨g0,off,rfl,cur,ty,fr,c1,c2,c3⟩:=A0.out.2.2.1.row k x hx;have hg:=A0.out.2.2.1.good x (List.mem_of_getElem? hx);have hdo:=Sr HS.out.1.dct hg (HL.out.2.1 x (List.mem_of_getElem? hx)) (by have:=HS.out.2.2.2;omega);obtain⟨C,hC⟩:∃C,C=x.cells:=⟨_,rfl⟩
   have hcs:C.size=6:=by rw[hC];rfl
   rw[←hC] at hdo c2 c3;rw[hcs] at c2 c3;have HC:=(hIq (HS.out.1.dct.world.row c1 id) (aIq c2 (aIq c3 (aIq hcs hdo))))
   clear hx c1 c2 c3 hg hdo hC hcs
   go_wp2_with (first
    | fail
    | ((with_reducible show zOq (.load 80 _));refine AF rfl 80 _ rfl g0 (off+k*6) rfl HC.out.1 Tryz.underlying80 rfl KC (by have:=HC.out.2.1;omega) C HC.out.2.2.1 ?_))
   refine HC.out.2.2.2.2.mono ?_;rintro e w2 hdp;obtain⟨rfl,σ',r,L',M',hb',_⟩:=HS.out.1.act hdp;have H2:=Lib.hid hb';clear hdp hb';go_wp2_with fail;go_roundg (gk-1)
   case measure=>have:=HS.out.2;omega
   exact⟨k+1,σ',r,L',M',by first|(simp;done)|(simp[hwk];done),by have:=HS.out.2.1;omega,by omega,by omega,by rw[Nat.mul_succ];exact H2.out⟩
 rw[decide_eq_false hc];clear hc;go_upto_region 8 with fail;have hpr:=KO HS.out.1.dct Fp;have HPR:=Lib.hid hpr;clear hpr;go_wp2_with fail;refine HPR.out.mono ?_;rintro e w2 ⟨σ2,M2,er,rfl,hs2,hc2⟩
 have hno:Dr∉Dx M2∧M2.length≤16:=by
  rcases hc2 with⟨h1,_,rfl⟩|⟨_,_,rfl⟩
  · exact⟨h1,HS.out.1.few⟩
  refine⟨fun h=>?_,Nat.le_trans (List.length_filter_le _ _) HS.out.1.few⟩;obtain⟨p,hp,e⟩:=G7 h;have:=(List.mem_filter.1 hp).2;simp[e] at this
 have H2:=(hIq hs2.dct (aIq hno.1 hno.2))
 clear hs2 hc2 hno HPR;go_upto_region 9 with fail;refine Bs (fun w3 hw3=>?_);have h3:Dct w0 w3 d v s (fun _=>False) 60000 σ2 root L M2 (60000*k+60000):=by rw[hw3];exact H2.out.1
 have H3:=Lib.hid h3;clear h3 hw3;go_upto_if 60 with fail;go_cut [2] (fun s2 wx=>∃vn,s2=.slice vo vn vc∧vn=(bs.take 1024).length∧Bytes W (.slice vo vn vc) (bs.take 1024)∧Adds w3 wx)
 case first =>
  by_cases hbig:1024<bn
  · have hx:(1024:Int)<(bn:Int):=by omega
    have hcap:1024≤vc:=by obtain⟨_,c,e,h1,_⟩:=HB.out.1.form;injection e with _ _ e;have:=HB.out.2;omega
    have hsl:=fun w0=>Qx w0 vo bn vc 1024 hcap
    have HBG:=Lib.hid hbig;clear hbig;go_wp2;go_meet;exact⟨1024,rfl,by rw[List.length_take];have:=HB.out.2;have:=HBG.out;omega,HB.out.1.take (by have:=HB.out.2;have:=HBG.out;omega),Ch.refl _ _⟩
  have hx:¬(1024:Int)<(bn:Int):=by omega
  have HBG:=Lib.hid hbig;clear hbig;go_wp2;go_meet;exact⟨bn,rfl,by rw[List.length_take];have:=HB.out.2;have:=HBG.out;omega,by rw[List.take_of_length_le (by have:=HB.out.2;have:=HBG.out;omega),HB.out.2];exact HB.out.1,Ch.refl _ _⟩
 obtain⟨vn,rfl,hvn,hvb,hA3⟩:=hcut;have hW3:Adds w0 wc:=H3.out.world.trans hA3 (fun _=>fEq);have hpb:=PB wc hk;rw[←HK.out.2] at hpb;have HV:=(hIq hvn (aIq hvb (aIq hA3 (aIq (hW3.row A0.out.2.1 id) hpb))))
 clear hvn hvb hA3 hW3 hpb
 go_wp2_with (first
  | fail
  | ((with_reducible show zOq (.load 24 _));refine AF rfl 24 _ rfl W.heap.size 0 rfl HV.out.2.2.2.1 Tryz.underlying24 rfl AV (by rw[HK.out.1];omega) K (by have:=HK.out.1;simp[←this]) ?_))
 refine HV.out.2.2.2.2.mono ?_;rintro e w4 ⟨kg,kc,rfl,hkb,hkge,hklt,a4⟩;have h4:=H3.out.more (HV.out.2.2.1.trans a4 (fun _=>fEq)) (b:=kg) ⟨Nat.le_trans HV.out.2.2.1.size hkge,hklt⟩;have H4:=(hIq h4 (aIq hkb (aIq hkge hklt)))
 have hgt:=Rr h4 (x := []) (Nat.zero_le _) hkb;have HGT:=Lib.hid hgt;clear h4 hkb hkge hklt hgt a4;go_wp2_with fail;refine HGT.out.mono ?_;rintro e w5 ⟨a5,v5,is,er5,rfl,hc5⟩
 have hc6:er5=0∧(is=true↔key∈keysOf L):=by
  rcases hc5 with⟨h,_⟩|⟨_,hh,he,Lx,hx,hc⟩
  · exact absurd hk h
  rcases hx with⟨_,_,rfl,rfl⟩|⟨h,_⟩|⟨h,_⟩
  · rcases hc with⟨h,_⟩|⟨_,h,⟨rfl,h2,_⟩|⟨rfl,bs,h2,_⟩⟩
    · exact absurd rfl h
    · exact⟨h,fun e=>(by cases e),fun e=>absurd e h2⟩
    exact⟨h,fun _=>List.mem_map.2 ⟨_,h2,rfl⟩,fun _=>rfl⟩
  · exact absurd rfl h
  exact absurd rfl h
 obtain⟨rfl,his⟩:=hc6;have h5:=H4.out.1.adds a5;have hrt:=Hb h5 (x := []) (Nat.zero_le _);have H5:=(hIq h5 (aIq his (aIq a5 hrt)))
 clear hc5 his h5 hrt a5;go_upto_region 13 with fail;go_wp2_with fail;refine H5.out.2.2.2.mono ?_;rintro e w6 ⟨hh6,er6,Hd,rfl,a6,hd6,hl6,hg6,_⟩
 have hc7:er6=0∧Hd=(tree 256 L).dig:=by
  rcases hd6 with⟨_,h1,rfl⟩|⟨h,_⟩|⟨h,_⟩
  · exact⟨rfl,hg6 rfl L (by rw[h1];exact List.mem_cons_self ..)⟩
  · exact absurd rfl h
  exact absurd rfl h
 obtain⟨rfl,hdg⟩:=hc7;obtain⟨R1,hR1⟩:∃R1,R1=AJ Hd:=⟨_,rfl⟩
 rw[←hR1];have HL6:=Lib.hid hl6;have H6:=(hIq (H5.out.1.adds a6) (aIq hdg (aIq hR1 (aIq (show R1.size=32 by rw[hR1,AK,hl6]) (show ∀v∈R1.toList,v.oneCell'=true by rw[hR1];exact Ao _)))))
 have H6A:=Lib.hid a6;clear hd6 hl6 hg6 hdg hR1 a6
 go_upto_region 14 with(first
  | fail
  | ((with_reducible show zOq (.alloc 85));refine AG rfl 85 rfl (.agg (AJ (List.replicate 32 0))) Jq ?_;dsimp only[Value.cells];try simp only[World.size_alloc])
  | ((with_reducible show zOq (.store 85 _ _));refine AB rfl 85 _ _ rfl w6.heap.size 0 R1 rfl rfl (heap_alloc_new _ _) (by rw[DN,H6.out.2.2.2.1]) (by rw[H6.out.2.2.2.1];exact Nat.le_of_eq (Nat.zero_add _)) H6.out.2.2.2.2 R1 (by rw[AI _ _ (by rw[Array.length_toList,Array.length_toList,H6.out.2.2.2.1];rfl)]) ?_))
 refine Bs (fun w7 hw7=>?_);have a7:Adds w6 w7:=by rw[hw7];exact((Ch.refl _ _).alloc _).setRow (.inr (Nat.le_refl _)) _
 have r7:w7.heap[w6.heap.size]?=some (.cells R1 85 (0,0)):=by rw[hw7];exact AD (heap_alloc_new w6 (.cells (AJ (List.replicate 32 0)) 85)) R1
 have H7:=(hIq (H6.out.1.more a7 (b:=w6.heap.size) ⟨Nat.le_refl _,Ai r7⟩) (aIq r7 (H4.out.2.1.Ae ((H5.out.2.2.1.trans H6A.out (fun _=>fEq)).trans a7 (fun _=>fEq)) (fun _ _ h=>h))))
 clear a7 r7 hw7;go_upto_region 16 with fail;go_upto_if 84 with fail;go_cut [18,19,20,21,22] (fun s18 s19 s20 s21 s22 wx=>∃σ' r L' tn',Dct w0 wx d v s (fun j=>(False∨j=kg)∨j=w6.heap.size) 60000 σ' r L' M2 tn'∧tn'≤10000000∧(tree 256 L').dig=(tree 256 L).dig∧But (fun j=>(False∨j=kg)∨j=w6.heap.size) w7 wx)
 case first =>
  cases is with
  | true =>
   go_wp2;go_meet;exact⟨_,_,_,_,H7.out.1,by have:=HS.out;omega,rfl,Ch.refl _ _⟩
  | false =>
   have hnk:key∉keysOf L:=fun h=>by have:=H5.out.2.1.2 h;cases this
   have hpt:=Nq H7.out.1 (key:=key) (bs:=bs.take 1024) H7.out.2.2 (HV.out.2.1.Ae (A0.out.1.trans H7.out.1.world (fun _=>fEq)) (fun _ _ h=>h)) (fun h0 j hj=>Nat.lt_of_lt_of_le (HB1.out h0 _ j hj) (A0.out.1.trans H7.out.1.world (fun _=>fEq)).size) (by have:=HS.out;omega);have HPT:=(hIq hpt hnk)
   clear hpt hnk;go_wp2_with fail;refine HPT.out.1.mono ?_;rintro e w8 ⟨rfl,σ8,r8,hs8⟩;obtain⟨pe,hpe⟩:∃pe,pe=DV σ2 key (bs.take 1024):=⟨_,rfl⟩
   have hpv:pe=0∨pe=9:=by
    rw[hpe];unfold DV Dn;rw[if_pos hk,if_neg (by rw[List.length_take];omega)];split
    · exact .inl rfl
    exact .inr rfl
   have hL8:pe=0→KJ σ2 L key (bs.take 1024)=upd L key (bs.take 1024):=fun h=>by unfold KJ;rw[←hpe,if_pos h]
   rw[←hpe];clear hpe;by_cases h9:pe=9
   · have HS8:=Lib.hid hs8
     subst h9;clear hs8 hL8 hpv;go_wp2;go_ret;exact⟨rfl,A0.out.1.trans HS8.out.dct.world (fun _=>fEq)⟩
   have h0:pe=0:=hpv.resolve_right h9;rw[hL8 h0] at hs8;have hkb8:Bytes w8 (.slice (some ⟨kg,0,none⟩) 32 kc) key:=H7.out.2.2.Ae hs8.but (fun j hj hn=>hn (by injection hj with hj;exact .inl (.inr hj.symm)));have hdl:=Ja hs8.dct hkb8 (by have:=HS.out;omega);have HS8:=(hIq hs8 (aIq hkb8 hdl))
   subst h0;clear hs8 hL8 hpv hkb8 hdl h9;go_upto_region 20 with fail;go_wp2_with fail;refine HS8.out.2.2.mono ?_;rintro e w9 ⟨rfl,σ9,r9,hs9⟩;obtain⟨de,hde⟩:∃de,de=C9 σ8 key:=⟨_,rfl⟩
   have hdv:de=0∨de=9:=by
    rw[hde];unfold C9 DY;rw[if_pos hk];split
    · exact .inl rfl
    exact .inr rfl
   have hL9:de=0→Jo σ8 (upd L key (bs.take 1024)) key=L:=fun h=>by
    unfold Jo;rw[←hde,if_pos h];unfold upd;rw[show BC ((key,bs.take 1024)::BC L key) key=BC (BC L key) key by unfold BC;rw[List.filter_cons,if_neg (by simp)]];rw[DA HPT.out.2,DA HPT.out.2]
   have hB9:de=0→GH σ8 (upd L key (bs.take 1024)) key=true:=fun h=>by
    unfold GH;exact decide_eq_true ⟨by rw[←hde];exact h,by unfold upd;simp[keysOf]⟩
   obtain⟨gb,hgb⟩:∃gb,gb=GH σ8 (upd L key (bs.take 1024)) key:=⟨_,rfl⟩
   obtain⟨L9,hL9'⟩:∃L9,L9=Jo σ8 (upd L key (bs.take 1024)) key:=⟨_,rfl⟩
   rw[←hgb] at hB9;rw[←hL9'] at hL9 hs9;rw[←hde, ←hgb];have hrt:=Hb hs9.dct (x := []) (Nat.zero_le _);have H9:=(hIq hs9 (aIq hdv (aIq hL9 (aIq hB9 hrt))))
   clear hde hgb hL9' hdv hL9 hB9 hs9 hrt;go_upto_region 21 with fail;go_wp2_with fail;refine H9.out.2.2.2.2.mono ?_;rintro e w10 ⟨hh,er,Hd2,rfl,a10,hd10,hl10,hg10,_⟩
   have hc10:er=0∧Hd2=(tree 256 L9).dig:=by
    rcases hd10 with⟨_,h1,rfl⟩|⟨h,_⟩|⟨h,_⟩
    · exact⟨rfl,hg10 rfl L9 (by rw[h1];exact List.mem_cons_self ..)⟩
    · exact absurd rfl h
    exact absurd rfl h
   obtain⟨rfl,hdg10⟩:=hc10;obtain⟨R2,hR2⟩:∃R2,R2=AJ Hd2:=⟨_,rfl⟩
   rw[←hR2];have H10:=(hIq (H9.out.1.dct.adds a10) (aIq hdg10 (aIq hR2 (aIq (show R2.size=32 by rw[hR2,AK,hl10]) (aIq (show ∀v∈R2.toList,v.oneCell'=true by rw[hR2];exact Ao _) (aIq a10 hl10))))))
   clear hd10 hl10 hg10 hdg10 hR2 a10
   go_upto_region 22 with(first
    | fail
    | ((with_reducible show zOq (.alloc 85));refine AG rfl 85 rfl (.agg (AJ (List.replicate 32 0))) Jq ?_;dsimp only[Value.cells];try simp only[World.size_alloc])
    | ((with_reducible show zOq (.store 85 _ _));refine AB rfl 85 _ _ rfl w10.heap.size 0 R2 rfl rfl (heap_alloc_new _ _) (by rw[DN,H10.out.2.2.2.1]) (by rw[H10.out.2.2.2.1];exact Nat.le_of_eq (Nat.zero_add _)) H10.out.2.2.2.2.1 R2 (by rw[AI _ _ (by rw[Array.length_toList,Array.length_toList,H10.out.2.2.2.1];rfl)]) ?_))
   refine Bs (fun w11 hw11=>?_);have a11:Adds w10 w11:=by rw[hw11];exact((Ch.refl _ _).alloc _).setRow (.inr (Nat.le_refl _)) _
   have r11:w11.heap[w10.heap.size]?=some (.cells R2 85 (0,0)):=by rw[hw11];exact AD (heap_alloc_new w10 (.cells (AJ (List.replicate 32 0)) 85)) R2
   have H11:=(hIq (H10.out.1.adds a11) (aIq r11 ((HS8.out.1.but.then H9.out.1.but).then (Adds.but (H10.out.2.2.2.2.2.1.trans a11 (fun _=>fEq))))))
   clear a11 r11 hw11;rcases H9.out.2.1 with hd0|hd9
   · have HL9:=Lib.hid (H9.out.2.2.1 hd0)
     have hgb:=H9.out.2.2.2.1 hd0;subst hgb;subst hd0;have hr7:=H11.out.2.2.row H7.out.2.1 (.inr rfl)
     have hreq:R2=R1:=by
      have h1:=H10.out.2.1;have h2:=H6.out.2.1;rw[H10.out.2.2.1,H6.out.2.2.1,h1,h2,HL9.out]
     have hneq:=fun w0=>Lz 85 Tryz.underlying85 Hd2 Hd2 H10.out.2.2.2.2.2.2 H10.out.2.2.2.2.2.2 w0
     rw[←hreq] at hr7;simp only[←H10.out.2.2.1,decide_true,Bool.not_true] at hneq;have HR:=(hIq hr7 hneq)
     have hq:=hneq;clear hr7 hreq hneq
     go_wp2_with (first
      | fail
      | ((with_reducible show zOq (.load 85 _));refine A6 (by first|rfl|(simp[Region.wanted];done)) 85 _ rfl w10.heap.size 0 rfl H11.out.2.1 Tryz.underlying85 rfl DN (by rw[H10.out.2.2.2.1];omega) R2 (by have:=H10.out.2.2.2.1;simp[←this]) ?_)
      | ((with_reducible show zOq (.load 85 _));refine A6 (by first|rfl|(simp[Region.wanted];done)) 85 _ rfl w6.heap.size 0 rfl HR.out.1 Tryz.underlying85 rfl DN (by rw[H10.out.2.2.2.1];omega) R2 (by have:=H10.out.2.2.2.1;simp[←this]) ?_))
     go_meet;exact⟨σ9,r9,L9,_,H11.out.1,by have:=HS.out;omega,by rw[HL9.out],H11.out.2.2⟩
   subst hd9;go_wp2;go_ret;exact⟨rfl,A0.out.1.trans H11.out.1.world (fun _=>fEq)⟩
 obtain⟨σ12,r12,L12,tn12,hd12,htn12,hdg12,hbt12⟩:=hcut;have hnm:=Pb hd12 (by have:=H2.out.2.2;omega);have h12:=hbt12.row H7.out.2.1 (.inr rfl);have H12:=(hIq hd12 (aIq htn12 (aIq hdg12 (aIq h12 hnm))))
 clear hd12 htn12 hdg12 hbt12 hnm h12;go_wp2_with fail;refine H12.out.2.2.2.2.mono ?_;rintro e w13 ⟨q,rfl,hq,a13⟩;obtain⟨qo,qc,rfl⟩:=An hq;obtain⟨ml,hml⟩:∃ml,ml=M2.length:=⟨_,rfl⟩
 have H13:=(hIq (H12.out.1.adds a13) (aIq (a13.row H12.out.2.2.2.1 id) hml))
 rw[←hml];clear hq a13 hml;by_cases h16:ml=16
 · have hsn:=Eu H13.out.1 O8 (by have:=H12.out.2.1;omega)
   have HSN:=Lib.hid hsn;have H16:=Lib.hid h16;subst h16;clear hsn;go_wp2_with fail;refine HSN.out.mono ?_;rintro e w14 ⟨σ14,M14,er14,rfl,hs14,hc14⟩
   have he:er14=8:=by
    have hck:Cs M2 QF=8:=by unfold Cs;rw[if_neg (by rw[Qf];decide),if_pos (by have:=H13.out.2.2;omega)]
    rcases hc14 with⟨_,h,_⟩|⟨h,_⟩|⟨h,_⟩
    · rw[h,hck]
    · rw[hck] at h;cases h
    rw[hck] at h;cases h
   have HS14:=Lib.hid hs14;subst he;clear hs14 hc14;go_wp2;go_ret;exact⟨rfl,A0.out.1.trans HS14.out.dct.world (fun _=>fEq)⟩
 have hsn:=Eu H13.out.1 Fp (by have:=H12.out.2.1;omega);have HSN:=Lib.hid hsn;have H16:=Lib.hid h16;have h16':¬(ml:Int)=16:=by omega
 clear hsn;go_wp2_with fail;refine HSN.out.mono ?_;rintro e w14 ⟨σ14,M14,er14,rfl,hs14,hc14⟩
 have he:er14=0∧M14=(Dr,r12,L12)::M2:=by
  have hck:Cs M2 Dr=0:=by unfold Cs;rw[if_neg (by rw[Qp];decide),if_neg (by have:=H13.out.2.2;have:=H2.out.2.2;have:=H16.out;omega)]
  rcases hc14 with⟨h,_⟩|⟨_,h,_⟩|⟨_,_,h1,h2⟩
  · exact absurd hck h
  · exact absurd h H2.out.2.1
  exact⟨h1,h2⟩
 obtain⟨rfl,rfl⟩:=he;have H14:=(hIq hs14.dct (hs14.but.row H13.out.2.1 (.inr rfl)))
 clear hs14 hc14;go_upto_region 31 with fail;go_wp2_with fail;go_loopg [24] (mlen+1) (fun g s24 wr=>∃k σ root L M tn,s24=.int .i64 ((k:Nat):Int)∧k+g=mlen+1∧k≤mlen∧k≤20∧Dct w0 wr d v s (fun j=>(False∨j=kg)∨j=w6.heap.size) 60000 σ root L M tn∧tn≤20000000+60000*k∧(Dr,r12,L12)∈M∧wr.heap[w6.heap.size]?=some (.cells R1 85 (0,0)))
 case atStart=>exact⟨0,_,_,_,_,_,rfl,by omega,by omega,by omega,H14.out.1,by have:=H12.out.2.1;omega,List.mem_cons_self ..,H14.out.2⟩
 obtain⟨k2,σ15,r15,L15,M15,tn15,rfl,hk2,hkl2,hk22,hd15,htn15,hm15,hr15⟩:=hrel;have HS2:=(hIq hd15 (aIq htn15 (aIq hm15 (aIq hr15 (aIq hk2 (aIq hkl2 hk22))))))
 clear hd15 htn15 hm15 hr15 hk2 hkl2 hk22
 iterate 2 go_step
 go_cut [149] (fun s149 wx=>s149=.bool (decide (k2<mlen∧k2<20))∧wx=wr)
 case first =>
  by_cases h1:k2<mlen
  · have h1':(k2:Int)<(mlen:Int):=by omega
    have h1'':decide ((k2:Int)<(mlen:Int))=true:=decide_eq_true h1';by_cases h2:k2<20
    · have h2':(k2:Int)<20:=by omega
      have h2'':decide ((k2:Int)<20)=true:=decide_eq_true h2';have H3:=Lib.hid (show decide (k2<mlen∧k2<20)=true from decide_eq_true ⟨h1,h2⟩);go_wp2;go_meet;exact⟨by rw[H3.out],rfl⟩
    have h2':¬(k2:Int)<20:=by omega
    have h2'':decide ((k2:Int)<20)=false:=decide_eq_false h2';have H3:=Lib.hid (show decide (k2<mlen∧k2<20)=false from decide_eq_false (fun h=>h2 h.2));go_wp2;go_meet;exact⟨by rw[H3.out],rfl⟩
  have h1':¬(k2:Int)<(mlen:Int):=by omega
  have h1'':decide ((k2:Int)<(mlen:Int))=false:=decide_eq_false h1';have H3:=Lib.hid (show decide (k2<mlen∧k2<20)=false from decide_eq_false (fun h=>h1 h.1));go_wp2;go_meet;exact⟨by rw[H3.out],rfl⟩
 obtain⟨rfl,rfl⟩:=hcut;by_cases hc:k2<mlen∧k2<20
 · rw[decide_eq_true hc]
   have hwk:wrap64 ((k2:Int)+1)=(k2:Int)+1:=by unfold wrap64;omega
   have hx1:(k2:Int)<(mlen:Int):=by omega
   have hx1':k2<mlen:=hc.1;obtain⟨x,hx⟩:∃x,m[k2]?=some x:=⟨_,List.getElem?_eq_getElem (by have:=HM.out.2.2.2;omega)⟩
   obtain⟨g0,off,rfl,cur,ty,fr,c1,c2,c3⟩:=A0.out.2.2.2.row k2 x hx;have hg:=A0.out.2.2.2.good x (List.mem_of_getElem? hx);have hdo:=Sr HS2.out.1 hg (HM.out.2.1 x (List.mem_of_getElem? hx)) (by have:=HS2.out;omega);obtain⟨C,hC⟩:∃C,C=x.cells:=⟨_,rfl⟩
   have hcs:C.size=6:=by rw[hC];rfl
   obtain⟨S,hS⟩:∃S,S=BQ x.nm:=⟨_,rfl⟩
   have hq1:C[1]?=some (.string S):=by rw[hC,hS];rfl
   rw[←hC] at hdo c2 c3;rw[hcs] at c2 c3;have hrw:=HS2.out.1.world.row c1 id
   have hcell:wc.cell? ⟨g0,off+k2*6+1,none⟩=some (.string S):=by
    refine AE hrw ?_;rw[←hq1, ←c3,Array.getElem?_extract];rw[if_pos (by omega)]
   by_cases hnm:x.nm=Dr
   · have hse:S.toList = [107,101,112,116,45,97,115,45,105,116,45,115,116,111,111,100]:=by rw[hS,hnm,ByteArray.toList_eq];rfl
     clear hx c1 c2 c3 hg hdo hC hcs hS hq1 hrw hnm;go_wp2;go_roundg (gk-1)
     case measure=>have:=HS2.out;omega
     exact⟨k2+1,σ15,r15,L15,M15,tn15,by first|(simp;done)|(simp[hwk];done),by have:=HS2.out.2.2.2.2.1;omega,by omega,by omega,HS2.out.1,by have:=HS2.out.2.1;omega,HS2.out.2.2.1,HS2.out.2.2.2.1⟩
   have hse:¬S.toList = [107,101,112,116,45,97,115,45,105,116,45,115,116,111,111,100]:=fun e=>hnm (by
    have h1:=Io x.nm Dr;rw[←hS,e,ByteArray.toList_eq] at h1;have h2:(BQ Dr).toList=Dr:=by rw[ByteArray.toList_eq];rfl
    have h3:decide (x.nm=Dr)=true:=by rw[←h1];first|rfl|(rw[h2];exact beq_self_eq_true Dr)|exact beq_self_eq_true Dr
    exact of_decide_eq_true h3)
   have hse2:(S.toList == [107,101,112,116,45,97,115,45,105,116,45,115,116,111,111,100])=false:=by simpa using hse
   have hse3:decide (S.toList = [107,101,112,116,45,97,115,45,105,116,45,115,116,111,111,100])=false:=decide_eq_false hse;have hse4:(S.toList != [107,101,112,116,45,97,115,45,105,116,45,115,116,111,111,100])=true:=by simpa using hse
   have HC:=(hIq hrw (aIq c2 (aIq c3 (aIq hcs (aIq hdo (fun e=>hnm e.symm:¬Dr=x.nm))))))
   clear hx c1 c2 c3 hg hdo hC hcs hS hq1 hrw hnm
   go_wp2_with (first
    | fail
    | ((with_reducible show zOq (.load 80 _));refine AF rfl 80 _ rfl g0 (off+k2*6) rfl HC.out.1 Tryz.underlying80 rfl KC (by have:=HC.out.2.1;omega) C HC.out.2.2.1 ?_))
   refine HC.out.2.2.2.2.1.mono ?_;rintro e w15 ⟨rfl,σ16,r16,L16,M16,hs16,hk16⟩;have H16b:=(hIq hs16.dct (aIq (hk16.stay _ HS2.out.2.2.1 HC.out.2.2.2.2.2) (hs16.but.row HS2.out.2.2.2.1 (.inr rfl))))
   clear hs16 hk16;go_wp2_with fail;go_roundg (gk-1)
   case measure=>have:=HS2.out;omega
   exact⟨k2+1,σ16,r16,L16,M16,_,by first|(simp;done)|(simp[hwk];done),by have:=HS2.out.2.2.2.2.1;omega,by omega,by omega,H16b.out.1,by have:=HS2.out.2.1;omega,H16b.out.2.1,H16b.out.2.2⟩
 rw[decide_eq_false hc];clear hc;have hrt:=Hb HS2.out.1 Fp;have HRT:=Lib.hid hrt;clear hrt;go_upto_region 36 with fail;go_wp2_with fail;refine HRT.out.mono ?_;rintro e w16 ⟨hh16,er16,Hd16,rfl,a16,hd16,hl16,hg16,_⟩
 have hc16:er16=0∧Hd16=(tree 256 L12).dig:=by
  rcases hd16 with⟨h,_⟩|⟨_,h,_⟩|⟨_,h0,p,hp,hp1,rfl⟩
  · cases h
  · exact absurd (List.mem_map_of_mem (f:=Prod.fst) HS2.out.2.2.1) h
  refine⟨h0,?_⟩;have hpe:p=(Dr,r12,L12):=NV HS2.out.1.nd hp HS2.out.2.2.1 hp1;rw[hpe] at hg16;exact hg16 h0 L12 (List.mem_cons_of_mem _ (List.mem_map_of_mem (f:=fun p:List UInt8×Int×AO=>(p.2.1,p.2.2)) HS2.out.2.2.1))
 obtain⟨rfl,hdg16⟩:=hc16;have hR16:AJ Hd16=R1:=by rw[hdg16,H12.out.2.2.1, ←H6.out.2.1, ←H6.out.2.2.1]
 rw[hR16];have H16:=(hIq (HS2.out.1.adds a16) (aIq (a16.row HS2.out.2.2.2.1 id) a16))
 clear hd16 hl16 hg16 hdg16 hR16 a16
 go_upto_region 37 with(first
  | fail
  | ((with_reducible show zOq (.alloc 85));refine AG rfl 85 rfl (.agg (AJ (List.replicate 32 0))) Jq ?_;dsimp only[Value.cells];try simp only[World.size_alloc])
  | ((with_reducible show zOq (.store 85 _ _));refine AB rfl 85 _ _ rfl w16.heap.size 0 R1 rfl rfl (heap_alloc_new _ _) (by rw[DN,H6.out.2.2.2.1]) (by rw[H6.out.2.2.2.1];exact Nat.le_of_eq (Nat.zero_add _)) H6.out.2.2.2.2 R1 (by rw[AI _ _ (by rw[Array.length_toList,Array.length_toList,H6.out.2.2.2.1];rfl)]) ?_))
 refine Bs (fun w17 hw17=>?_);have a17:Adds w16 w17:=by rw[hw17];exact((Ch.refl _ _).alloc _).setRow (.inr (Nat.le_refl _)) _
 have r17:w17.heap[w16.heap.size]?=some (.cells R1 85 (0,0)):=by rw[hw17];exact AD (heap_alloc_new w16 (.cells (AJ (List.replicate 32 0)) 85)) R1
 have h17:=H16.out.1.more a17 (b:=w16.heap.size) ⟨Nat.le_refl _,Ai r17⟩;have hrb:=Hc h17 Fp (by have:=HS2.out.2;omega);have H17:=(hIq h17 (aIq r17 (aIq (a17.row H16.out.2.1 id) hrb)))
 clear a17 r17 hw17 h17 hrb;go_wp2_with fail;refine H17.out.2.2.2.mono ?_;rintro e w18 ⟨σ18,r18,L18,er18,rfl,hs18,hc18⟩
 have hc19:er18=0∧L18=L12:=by
  rcases hc18 with⟨h,_⟩|⟨h0,p,hp,hp1,hp2⟩
  · exact absurd (List.mem_map_of_mem (f:=Prod.fst) HS2.out.2.2.1) h
  refine⟨h0,?_⟩;have hpe:p=(Dr,r12,L12):=NV HS2.out.1.nd hp HS2.out.2.2.1 hp1;rw[hp2,hpe]
 obtain⟨rfl,rfl⟩:=hc19;have hrt:=Hb hs18.dct (x := []) (Nat.zero_le _);have H18:=(hIq hs18.dct (aIq (hs18.but.row H17.out.2.1 (.inr rfl)) (aIq (hs18.but.row H17.out.2.2.1 (.inl (.inr rfl))) hrt)))
 clear hs18 hc18 hrt;go_upto_region 38 with fail;go_wp2_with fail;refine H18.out.2.2.2.mono ?_;rintro e w19 ⟨hh19,er19,Hd19,rfl,a19,hd19,hl19,hg19,_⟩
 have hc20:er19=0∧Hd19=(tree 256 L18).dig:=by
  rcases hd19 with⟨_,h1,rfl⟩|⟨h,_⟩|⟨h,_⟩
  · exact⟨rfl,hg19 rfl L18 (by rw[h1];exact List.mem_cons_self ..)⟩
  · exact absurd rfl h
  exact absurd rfl h
 obtain⟨rfl,hdg19⟩:=hc20;have hR19:AJ Hd19=R1:=by rw[hdg19,H12.out.2.2.1, ←H6.out.2.1, ←H6.out.2.2.1]
 rw[hR19];have H19:=(hIq (H18.out.1.adds a19) (aIq (a19.row H18.out.2.1 id) (a19.row H18.out.2.2.1 id)))
 clear hd19 hl19 hg19 hdg19 hR19 a19
 go_upto_region 39 with(first
  | fail
  | ((with_reducible show zOq (.alloc 85));refine AG rfl 85 rfl (.agg (AJ (List.replicate 32 0))) Jq ?_;dsimp only[Value.cells];try simp only[World.size_alloc])
  | ((with_reducible show zOq (.store 85 _ _));refine AB rfl 85 _ _ rfl w19.heap.size 0 R1 rfl rfl (heap_alloc_new _ _) (by rw[DN,H6.out.2.2.2.1]) (by rw[H6.out.2.2.2.1];exact Nat.le_of_eq (Nat.zero_add _)) H6.out.2.2.2.2 R1 (by rw[AI _ _ (by rw[Array.length_toList,Array.length_toList,H6.out.2.2.2.1];rfl)]) ?_))
 refine Bs (fun w20 hw20=>?_);have a20:Adds w19 w20:=by rw[hw20];exact((Ch.refl _ _).alloc _).setRow (.inr (Nat.le_refl _)) _
 have r20:w20.heap[w19.heap.size]?=some (.cells R1 85 (0,0)):=by rw[hw20];exact AD (heap_alloc_new w19 (.cells (AJ (List.replicate 32 0)) 85)) R1
 have heq:=fun w0=>FK 85 Tryz.underlying85 Hd Hd HL6.out HL6.out w0
 simp only[←H6.out.2.2.1,decide_true] at heq;have H20:=(hIq r20 (aIq (a20.row H19.out.2.1 id) (aIq (a20.row H19.out.2.2 id) (H19.out.1.adds a20).world)))
 clear a20 r20 hw20
 go_wp2_with (first
  | fail
  | ((with_reducible show zOq (.load 85 _));refine A6 (by first|rfl|(simp[Region.wanted];done)) 85 _ rfl w19.heap.size 0 rfl H20.out.1 Tryz.underlying85 rfl DN (by rw[H6.out.2.2.2.1];omega) R1 (by have:=H6.out.2.2.2.1;simp[←this]) ?_)
  | ((with_reducible show zOq (.load 85 _));refine A6 (by first|rfl|(simp[Region.wanted];done)) 85 _ rfl w16.heap.size 0 rfl H20.out.2.1 Tryz.underlying85 rfl DN (by rw[H6.out.2.2.2.1];omega) R1 (by have:=H6.out.2.2.2.1;simp[←this]) ?_)
  | ((with_reducible show zOq (.load 85 _));refine A6 (by first|rfl|(simp[Region.wanted];done)) 85 _ rfl w6.heap.size 0 rfl H20.out.2.2.1 Tryz.underlying85 rfl DN (by rw[H6.out.2.2.2.1];omega) R1 (by have:=H6.out.2.2.2.1;simp[←this]) ?_))
 go_ret;exact⟨rfl,A0.out.1.trans H20.out.2.2.2 (fun _=>fEq)⟩
end Go.Proofs.YtooijgcildbnlaaGreat.Law15
