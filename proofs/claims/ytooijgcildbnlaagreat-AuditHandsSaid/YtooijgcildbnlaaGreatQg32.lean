/- Laws of the layers below. -/
import Derived.Test.YtooijgcildbnlaaGreatQg31
set_option maxHeartbeats 3200000
set_option maxRecDepth 100000
set_option linter.unusedVariables false
namespace Go.Proofs.YtooijgcildbnlaaGreat.Store
open Go.RowKit Go.Shelf Go.Sort Go.Proofs.YtooijgcildbnlaaGreat.ShaW Go.Proofs.YtooijgcildbnlaaGreat.Path Go.Proofs.YtooijgcildbnlaaGreat.CI
attribute [local go_sem] Oper.semAt_some
theorem Vn {P:Program} {C:Code} {Q:Exit→Act→World→Prop} {a:Act} {w:World} (h:∀a0,a0=a→C.wp P Q a0 w):C.wp P Q a w:=h a rfl
theorem Gv (w:World) (l:List Int):Az (w.alloc (.cells (Ci l).toArray 3)) (some ⟨w.heap.size,0,none⟩) l:=fun i x hx=>by
 refine⟨_,_,rfl,?_⟩;rw[Nat.zero_add];refine AG (heap_alloc_new w _) ?_;simp[Ci,hx]

end Go.Proofs.YtooijgcildbnlaaGreat.Store
namespace Go.Proofs.YtooijgcildbnlaaGreat.Store
open Go.RowKit Go.Sort Go.Proofs.YtooijgcildbnlaaGreat.ShaW Go.Proofs.YtooijgcildbnlaaGreat.Path Go.Proofs.YtooijgcildbnlaaGreat.CI
abbrev Jj (n0:Nat) (G:Nat→Prop) (A B:World):Prop:=Ch (fun k=>n0≤k∨G k) A B
theorem Jj.KH {n0:Nat} {G:Nat→Prop} {A B:World} (h:Below n0 A B):Jj n0 G A B:=(Ch.KH h).mono (fun _ _ h=>.inl h)
theorem Wh {n0:Nat} {G:Nat→Prop} {A B C:World} (h:Jj n0 G A B) (k:Jj n0 G B C):Jj n0 G A C:=Ch.BN h k
theorem XS {n0:Nat} {G:Nat→Prop} {w:World} (hn:n0≤w.heap.size) (W:World) (l:Nat) (o o':Obj) (hl:w.heap.size≤l) (h:W.heap[l]?=some o) (_:o.isCells=false) (_:o.isWalk=false):Jj n0 G W (W.putObj l o') :=
 (Ch.refl _ W).grown (grownBy_putObj' W l o') (fun k hk=>.inl (.inl (by cases hk;omega)))
theorem Te {G:Nat→Prop} (n:Nat) (hn:1≤n) (b base:Nat) (hG:∀k,G k→k<base) (v:Value) (out:List Pr) (w:World)
 (hrow:w.heap[b]?=some (.cells #[v] 33 (0,0))) (ht:Told base w v out) (hlen:out.length≤65536) (hval:∀x∈out,x.val.length≤1024) :
 SeqY Fence.wide n Tryz.prog 166 #[.pointer (some ⟨b,0,none⟩)] (fun x:Pr=>#[.agg (AJ x.key),x.vv]) (Yv w.heap.size out) (Jj w.heap.size G) (fun ys=>ys.map Pr.ent=out.map Pr.ent) (fun pre=>pre.map Pr.ent <+: out.map Pr.ent) out.length w:=by
 intro l J Jx W hW hJ hJx hY h0;have HY:=Lib.hid hY;have HGB:=Lib.hid hG;have HJA:=Lib.hid hJ;obtain⟨ao,cap,rfl⟩:=ht.row.form;obtain⟨m,hm⟩:∃m,m=out.length:=⟨_,rfl⟩
 have hb:=Ad hrow;have c1:W.cell? ⟨b,0,none⟩=some (.slice ao m cap):=by rw[hm];exact N0 hW (AG hrow rfl) hb
 have HB:=Lib.hid hW;have HT:=Lib.hid ht;have HV:=Lib.hid hval;have HM:=Lib.hid hm;have hm65:m≤65536:=by omega
 obtain⟨Z,hZ⟩:∃Z,Z=LO:=⟨_,rfl⟩
 obtain⟨hz0,hz1,hz2,hz3⟩:=Wq;rw[←hZ] at hz0 hz1;have HZ:=(hIq hz0 hz1)
 obtain⟨i8,p1,p2,p3,p4⟩:=Lq;have HI:=(hIq p1 (aIq p2 (aIq p3 p4)))
 clear hG hY hJ hJx hrow hm hW ht hval hZ hz0 hz1 hz2 hz3 p1 p2 p3 p4 hlen;refine callsIn_of_wp Tryz.func166 rfl trivial ?_ rfl;simp only[Tryz.ntmps166,List.size_toArray,List.length_cons,List.length_nil,Nat.reduceAdd,Nat.reduceSub,Array.replicate_succ,Array.replicate_zero,List.push_toArray,List.append_toArray,List.nil_append,List.cons_append]
 gi_wp2
 gi_loopw [7] (fun i wr=>∃(k:Nat) (ys:List Pr),k≤m∧i=.int .i64 k∧ys.map Pr.ent=(out.take k).map Pr.ent∧J ys wr∧Jj w.heap.size G w wr) (fun i _=>m-(intOf i).toNat)
 case atStart=>exact⟨0,[],Nat.zero_le _,rfl,by simp,h0,Jj.KH HB.out⟩
 obtain⟨k,ys,hk,rfl,hys,hJs,hnx⟩:=hrel;have hyl:ys.length=k:=by have:=congrArg List.length hys;rw[List.length_map,List.length_map,List.length_take] at this;have:=HM.out;omega
 have HJ:=Lib.hid hJs;have HX:=Lib.hid hnx;have HYS:=(hIq hys hyl)
 by_cases hlt:k<m
 · obtain⟨x,hx⟩:∃x,out[k]?=some x:=⟨_,List.getElem?_eq_getElem (by rw[←HM.out];exact hlt)⟩
   have hxm:=List.mem_of_getElem? hx;obtain⟨hk32,hbx,hblk⟩:=HT.out.vals x hxm;obtain⟨g0,cp,cur,hv0,hbg,hg0,hs0,hx0,_⟩:=HT.out.row.open (fun y hy=>(HT.out.vals y hy).1) (by have:=HM.out;omega)
   injection hv0 with hv1 _ hv3;subst hv1;have hgl:g0<w.heap.size:=Ad hg0;have hrw:wr.heap[g0]?=some (.cells cur 141 (0,0)):=(hnx.block g0 hgl (fun h=>h.elim (fun h=>by omega) (fun h=>by have:=HGB.out _ h;omega))).trans hg0;have hbw:Bytes wr x.vv x.val:=hbx.Am hnx (fun q hq hw=>hw.elim (fun hw=>by have:=(hblk q hq).2.1;omega) (fun hw=>by have:=HGB.out _ hw;have:=(hblk q hq).1;omega));have hsz:=Pr.size hk32;have hm33:k*33+33≤cur.size:=by have:=Nat.mul_le_mul_right 33 (show k+1≤out.length by have:=HM.out;omega);omega
   have hxc:=hx0 k x hx;obtain⟨C,hC⟩:∃C,C=x.cells:=⟨_,rfl⟩
   have hCs:C.size=33:=by rw[hC];exact hsz
   have hC1:∀u∈C.toList,u.oneCell'=true:=by rw[hC];exact Pr.one (w:=w) ⟨hk32,hbx,fun _ q hq=>(hblk q hq).2.1⟩
   have hCk:C.extract 0 (0+32)=AJ x.key:=by rw[hC];exact Pr.Bh hk32
   have hCv:C[32]?=some x.vv:=by rw[hC];exact Pr.I3 hk32
   rw[←hC] at hxc;obtain⟨KX,hKX⟩:∃K,K=AJ x.key:=⟨_,rfl⟩
   rw[←hKX] at hCk;obtain⟨p,hp⟩:∃p,p=wr.heap.size:=⟨_,rfl⟩
   obtain⟨wp,hwp⟩:∃wp,wp=(wr.alloc (.cells Z 141)).setRow p C:=⟨_,rfl⟩
   have rp:wp.heap[p]?=some (.cells C 141 (0,0)):=by rw[hwp,hp];exact AF (heap_alloc_new _ _) _
   have ap:Adds wr wp:=by rw[hwp];exact((Ch.refl _ _).alloc _).setRow (.inr (by omega)) _
   obtain⟨xo,xc,hxv,_⟩:=hbw.form;obtain⟨v',w8,hrun,hown8,a8⟩:=Fc (P:=Tryz.prog) wp.drew 73 73 5 rfl i8 Tryz.underlying73 HI.out.1 HI.out.2.1 HI.out.2.2.1 HI.out.2.2.2 x.vv x.val (hbw.Am ap.drew (fun _ _ h=>h)) (by have:=HV.out x hxm;omega);have r8:=a8.row (AQ rp) id;have a18:Adds wr w8:=ap.drew.trans a8 (fun _=>fEq);have hwr:=HX.out.size;have hJ8:=HJA.out ys wr w8 none HJ.out a18.grownBy (fun r e=>by cases e);have hY8:Yv w.heap.size out ys ⟨x.key,v',x.val⟩ w8:=⟨x,by rw[HYS.out.2];exact hx,rfl,hk32,HV.out x hxm,hown8.base (fun q hq=>by have h1:=(hown8.lt q hq).1;have h2:=ap.size;simp at h1;omega)⟩
   obtain⟨fn,tmps,assign,body,hy,hR⟩:=HY.out ys ⟨x.key,v',x.val⟩ w8 hJ8 hY8 (by rw[HYS.out.2, ←HM.out];exact hlt);dsimp only at hy;rw[←hKX] at hy
   have hR2:=hR.mono (R':=fun e W'=>∃bb:Bool,e=.returned (.bool bb)∧(if bb=true then J (ys ++ [Pr.mk x.key v' x.val]) W'∧Jj w.heap.size G w8 W' else Jx (ys ++ [Pr.mk x.key v' x.val]) W')) (fun e W' h=>by
    rcases h with⟨rfl,p,q⟩|⟨rfl,p⟩
    · exact⟨true,rfl,by rw[if_pos rfl];exact⟨p,q⟩⟩
    exact⟨false,rfl,by rw[if_neg (by decide)];exact p⟩)
   have eK:∀w0:World,w0.heap[p]?=some (.cells C 141 (0,0))→(loadVar 24 ⟨p,0,none⟩).run Tryz.prog w0=.ok (.agg KX) w0:=fun w0 h=>by
    have:=Bb (P:=Tryz.prog) w0 h Tryz.underlying24 rfl Au (off:=0) (by rw[hCs];omega);rw[this,hCk]
   have e1:=eK wp.drew (AQ rp);have e8:=eK w8 r8;have c32:=AG (AQ rp) hCv;have c832:=AG r8 hCv;have HW:=(hIq hwp hp)
   have HC:=(hIq hCs (aIq hC1 hxc))
   have HR2:=Lib.hid hR2;have HRW:=(hIq hrw hm33)
   have HYY:=Lib.hid hy;have HEND:=Lib.hid (show(ys ++ [Pr.mk x.key v' x.val]).map Pr.ent=(out.take (k+1)).map Pr.ent by rw[List.map_append,HYS.out.1,PV hx,List.map_append];rfl);have HB8:=Lib.hid (show Jj w.heap.size G w w8 from HX.out.BN (a18.mono (fun _ _ h=>h.elim)));rw[hxv] at hrun c32 c832;have hkm:(k:Int)<(m:Int):=by omega
   clear hx hxm hk32 hbx hblk hbg hg0 hs0 hx0 hgl hrw hbw hsz hm33 hxc hC hCs hC1 hCk hCv hKX hwp rp ap hown8 a8 r8 a18 hwr hJ8 hY8 hR hR2 eK hys hyl hJs hnx hxv hp hv3
   gi_wp2_with (first
    | fail
    | ((with_reducible show wpListIn _ _ _ _ _ (⟨_,.load 141 _,_,_,_,_⟩::_) _ _);refine Eu rfl 141 _ rfl g0 (k*33) rfl HRW.out.1 Tryz.underlying141 rfl Mh HRW.out.2 C HC.out.2.2 ?_)
    | ((with_reducible show wpListIn _ _ _ _ _ (⟨_,.alloc 141,_,_,_,_⟩::_) _ _);refine E7 rfl 141 rfl (.agg Z) HZ.out.1 ?_;dsimp only[Value.cells];try simp only[World.size_alloc])
    | ((with_reducible show wpListIn _ _ _ _ _ (⟨_,.store 141 _ _,_,_,_,_⟩::_) _ _);refine Eb rfl 141 _ _ rfl wr.heap.size 0 C rfl rfl (heap_alloc_new _ _) (by rw[Mh,HC.out.1]) (by rw[HC.out.1,HZ.out.2];omega) HC.out.2.1 C (by rw[AI _ _ (by rw[Array.length_toList,Array.length_toList,HC.out.1,HZ.out.2])]) ?_))
   rw[←HW.out.2];rw[←HW.out.1];refine wpIn_region_any (by kernel_rfl) ?_;change wpAnyIn _ _ _ _ _ _ _ _ _ (World.drew _);refine wpAnyIn_take (i:=0) (v:=.func (.yield l) #[] #[]) rfl rfl (by kernel_rfl) (by kernel_rfl) (by kernel_rfl) (fun _ _ _ h=>h) ⟨Or.inl ⟨by rfl,fun w0=>by go_simp;try rfl⟩,fun _=>rfl⟩ ?_;refine wpAnyIn_take (i:=1) (v:=.pointer (some ⟨p,0,none⟩)) rfl rfl (by kernel_rfl) (by kernel_rfl) (by kernel_rfl) (fun _ _ _ h=>h) ⟨Or.inl ⟨by rfl,fun w0=>by go_simp;try rfl⟩,fun _=>rfl⟩ ?_;refine wpAnyIn_take (i:=3) (v:=.pointer (some ⟨p,32,none⟩)) rfl rfl (by kernel_rfl) (by kernel_rfl) (by kernel_rfl) (fun _ _ _ h=>h) ⟨Or.inl ⟨by rfl,fun w0=>by go_simp;try rfl⟩,fun _=>rfl⟩ ?_;have sl:(loadVar 73 ⟨p,32,none⟩).run Tryz.prog wp.drew=.ok (.slice xo x.val.length xc) wp.drew:=by go_simp;try rfl
   refine wpAnyIn_ready (rs := [2,4]) (by kernel_rfl) (by simp) (AllReadyIn.cons rfl (fun K2 hK2=>?_) (AllReadyIn.cons rfl (fun K4 hK4=>?_) AllReadyIn.nil))
   · refine Cv rfl (fun f hf=>trivial) rfl (Fh rfl rfl e1) (hK2 _ _ ?_)
     refine wpAnyIn_ready (rs := [4]) (by kernel_rfl) (by simp) (AllReadyIn.cons rfl (fun K4 hK4=>?_) AllReadyIn.nil);refine Cv rfl (fun f hf=>trivial) rfl (Fh rfl rfl sl) (hK4 _ _ ?_);refine wpAnyIn_ready (rs := [5]) (by kernel_rfl) (by simp) (AllReadyIn.cons rfl (fun K5 hK5=>?_) AllReadyIn.nil);refine Cv rfl (fun f hf=>trivial) rfl (GY rfl hrun) (hK5 _ _ ?_);refine wpAnyIn_ready (rs := [6]) (by kernel_rfl) (by simp) (AllReadyIn.cons rfl (fun K6 hK6=>?_) AllReadyIn.nil);simp only[Act.put];go_simp;refine HR2.out.mono ?_;rintro e W3 ⟨bb,rfl,hbb⟩;refine hK6 _ _ ?_;refine wpAnyIn_take (i:=7) (v:=.bool (!bb)) rfl rfl (by kernel_rfl) (by kernel_rfl) (by kernel_rfl) (fun _ _ _ h=>h) ⟨Or.inl ⟨by rfl,fun w0=>by go_simp;try rfl⟩,fun _=>rfl⟩ ?_;refine wpAnyIn_done (by kernel_rfl) ?_ _;simp only[Act.put];clear hK6;cases bb with|true=>(rw[if_pos rfl] at hbb;obtain⟨hJ3,hK3⟩:=hbb;have H3:=(hIq hJ3 hK3);clear hJ3 hK3;gi_wp2;go_roundw;(case rel=>exact⟨k+1,ys ++ [Pr.mk x.key v' x.val],by omega,by simp,HEND.out,H3.out.1,HB8.out.BN H3.out.2⟩);(case measure=>(simp[intOf];omega)))|false=>(rw[if_neg (by decide)] at hbb;have H3:=Lib.hid hbb;clear hbb;gi_wp2;refine bodyPost_ret (results_none rfl _ _ _) rfl ?_;exact⟨⟨_,rfl⟩,.inr ⟨_,by rw[HEND.out];exact(List.take_prefix _ _).map _,H3.out⟩⟩)
   refine Cv rfl (fun f hf=>trivial) rfl (Fh rfl rfl sl) (hK4 _ _ ?_);refine wpAnyIn_ready (rs := [2,5]) (by kernel_rfl) (by simp) (AllReadyIn.cons rfl (fun K2 hK2=>?_) (AllReadyIn.cons rfl (fun K5 hK5=>?_) AllReadyIn.nil))
   · refine Cv rfl (fun f hf=>trivial) rfl (Fh rfl rfl e1) (hK2 _ _ ?_)
     refine wpAnyIn_ready (rs := [5]) (by kernel_rfl) (by simp) (AllReadyIn.cons rfl (fun K5 hK5=>?_) AllReadyIn.nil);refine Cv rfl (fun f hf=>trivial) rfl (GY rfl hrun) (hK5 _ _ ?_);refine wpAnyIn_ready (rs := [6]) (by kernel_rfl) (by simp) (AllReadyIn.cons rfl (fun K6 hK6=>?_) AllReadyIn.nil);simp only[Act.put];go_simp;refine HR2.out.mono ?_;rintro e W3 ⟨bb,rfl,hbb⟩;refine hK6 _ _ ?_;refine wpAnyIn_take (i:=7) (v:=.bool (!bb)) rfl rfl (by kernel_rfl) (by kernel_rfl) (by kernel_rfl) (fun _ _ _ h=>h) ⟨Or.inl ⟨by rfl,fun w0=>by go_simp;try rfl⟩,fun _=>rfl⟩ ?_;refine wpAnyIn_done (by kernel_rfl) ?_ _;simp only[Act.put];clear hK6;cases bb with|true=>(rw[if_pos rfl] at hbb;obtain⟨hJ3,hK3⟩:=hbb;have H3:=(hIq hJ3 hK3);clear hJ3 hK3;gi_wp2;go_roundw;(case rel=>exact⟨k+1,ys ++ [Pr.mk x.key v' x.val],by omega,by simp,HEND.out,H3.out.1,HB8.out.BN H3.out.2⟩);(case measure=>(simp[intOf];omega)))|false=>(rw[if_neg (by decide)] at hbb;have H3:=Lib.hid hbb;clear hbb;gi_wp2;refine bodyPost_ret (results_none rfl _ _ _) rfl ?_;exact⟨⟨_,rfl⟩,.inr ⟨_,by rw[HEND.out];exact(List.take_prefix _ _).map _,H3.out⟩⟩)
   refine Cv rfl (fun f hf=>trivial) rfl (GY rfl hrun) (hK5 _ _ ?_);refine wpAnyIn_ready (rs := [2]) (by kernel_rfl) (by simp) (AllReadyIn.cons rfl (fun K2 hK2=>?_) AllReadyIn.nil);refine Cv rfl (fun f hf=>trivial) rfl (Fh rfl rfl e8) (hK2 _ _ ?_);refine wpAnyIn_ready (rs := [6]) (by kernel_rfl) (by simp) (AllReadyIn.cons rfl (fun K6 hK6=>?_) AllReadyIn.nil);simp only[Act.put];go_simp;refine HR2.out.mono ?_;rintro e W3 ⟨bb,rfl,hbb⟩;refine hK6 _ _ ?_;refine wpAnyIn_take (i:=7) (v:=.bool (!bb)) rfl rfl (by kernel_rfl) (by kernel_rfl) (by kernel_rfl) (fun _ _ _ h=>h) ⟨Or.inl ⟨by rfl,fun w0=>by go_simp;try rfl⟩,fun _=>rfl⟩ ?_;refine wpAnyIn_done (by kernel_rfl) ?_ _;simp only[Act.put];clear hK6;cases bb with|true=>(rw[if_pos rfl] at hbb;obtain⟨hJ3,hK3⟩:=hbb;have H3:=(hIq hJ3 hK3);clear hJ3 hK3;gi_wp2;go_roundw;(case rel=>exact⟨k+1,ys ++ [Pr.mk x.key v' x.val],by omega,by simp,HEND.out,H3.out.1,HB8.out.BN H3.out.2⟩);(case measure=>(simp[intOf];omega)))|false=>(rw[if_neg (by decide)] at hbb;have H3:=Lib.hid hbb;clear hbb;gi_wp2;refine bodyPost_ret (results_none rfl _ _ _) rfl ?_;exact⟨⟨_,rfl⟩,.inr ⟨_,by rw[HEND.out];exact(List.take_prefix _ _).map _,H3.out⟩⟩)
 obtain rfl:k=m:=by omega
 gi_wp2
 go_end0;exact⟨⟨_,rfl⟩,.inl ⟨ys,by rw[HYS.out.1,List.take_of_length_le (by have:=HM.out;omega)],HJ.out⟩⟩
end Go.Proofs.YtooijgcildbnlaaGreat.Store
namespace Go.Proofs.YtooijgcildbnlaaGreat.Store
open Go.RowKit Go.Proofs.YtooijgcildbnlaaGreat.ShaW Go.Proofs.YtooijgcildbnlaaGreat.Path
section
variable {σ : AD Nd} {R : List (Int×Bi)} {l l' : List Int} {k k' : Wk} {x h : Int}
structure YW (σ:AD Nd) (l:List Int):Prop where
 good:Good σ
 held:∀k,k≠0→Store.held σ k=(l.count k:Nat)
theorem Wy {h:Int} {y:Nd×Nat} (hy:σ.get? h=some y):σ.count h=y.2:=by unfold AD.count;rw[hy];rfl
end
end Go.Proofs.YtooijgcildbnlaaGreat.Store
namespace Go.Proofs.YtooijgcildbnlaaGreat.Store
open Go.RowKit Go.Shelf Go.Sort Go.Proofs.YtooijgcildbnlaaGreat.ShaW Go.Proofs.YtooijgcildbnlaaGreat.Path Go.Proofs.YtooijgcildbnlaaGreat.CI
attribute [local go_sem] Oper.semAt_some
section
variable {F : Fence} {nF : Nat} {P : Program} {w : World} {ops : Array Oper} {rest : List Oper} {o : Oper} {a : Act} {Q : Exit→Act→World→Prop}
theorem Hy (hgd:o.guard=none) (t k j:Nat) (x y:Operand) (ho:o.op=.build t #[(k,x),(j,y)]) (vx vy:Value) (hx:a.eval x=vx) (hy:a.eval y=vy)
 (cells:Array Value) (hf:P.built t [(k,vx),(j,vy)]=some cells) (h:wpListIn F nF P ops Q rest (a.put o.dst (.agg cells)) w):wpListIn F nF P ops Q (o::rest) a w :=
 wpListIn_plain hgd fun K hK=>by
  unfold Oper.wpIn;refine⟨by simp[Oper.about,ho],?_⟩;rw[Oper.semAt_plain F _ _ (by rw[ho];intro c hc';cases hc')];have hr:=run_build (P:=P) w t #[(k,vx),(j,vy)] cells hf;simp[execOp,ho,hx,hy,hr,Result.andThen];exact hK _ _ h
theorem FZ (hgd:o.guard=none) (t:TypeId) (x:Operand) (ho:o.op=.buildSlice t 1 #[(0,x)])
 (e:TypeId) (ie:TypeInfo) (z v:Value) (hx:a.eval x=v) (hu:P.underlying t=some (.slice e)) (hie:P.info? e=some ie) (hz:ie.zero=some z) (hsmall:ie.size≤65536) (hpos:0<ie.size) (hv:v.cells.size=ie.size)
 (h:wpListIn F nF P ops Q rest (a.put o.dst (.slice (some ⟨w.heap.size,0,none⟩) 1 1)) (w.alloc (.cells v.cells e))):wpListIn F nF P ops Q (o::rest) a w :=
 wpListIn_plain hgd fun K hK=>by
  unfold Oper.wpIn;refine⟨by simp[Oper.about,ho],?_⟩;rw[Oper.semAt_plain F _ _ (by rw[ho];intro c hc';cases hc')];unfold execOp;have:=Ep w t e ie z v hu hie hz hsmall hpos hv;simp only[ho,List.map_toArray,List.map_cons,List.map_nil,hx,Sem.run_bind,this,Result.andThen_ok];exact hK _ _ h
theorem Ga (hgd:o.guard=none) (s x:Operand) (t:TypeId)
 (ho:o.op=.call { callee:=.builtin .append,args:=#[s,x],argTypes:=#[t,t] }) (e:TypeId) (i:TypeInfo) (z:Value) (size bytes:Nat) (ht:P.underlying t=some (.slice e)) (hi:P.info? e=some i) (hz:i.zero=some z)
 (hsize:i.size=size) (hby:i.bytes=bytes) (hzs:z.cells.size=size) (hsz:0<size) (v:Value) (n:Nat) (xs:List Value) (hs:a.eval s=v) (hown:w.ownsRow 0 e size v n xs)
 (ad:Addr) (m c:Nat) (news:List Value) (hx:a.eval x=.slice (some ad) m c) (hl:news.length=m*size) (hnews:∀j u,news[j]?=some u→w.cell? (ad.add j)=some u) (h1:∀u∈news,u.oneCell'=true)
 (h63:n+m≤maxLen) (hbytes:(n+m)*bytes≤140737488355328)
 (h:∀v' w',w'.ownsRow 0 e size v' (n+m) (xs++news)→w.grownBy w' v.ownBlock→(v'.ownBlock=v.ownBlock∨∀k,v'.ownBlock=some k→w.heap.size≤k)→wpListIn F nF P ops Q rest (a.put o.dst v') w'):wpListIn F nF P ops Q (o::rest) a w :=
 wpListIn_plain hgd fun K hK=>by
  obtain⟨v',w',hrun,r1,r2,r3⟩:=EV w t o.type e i z size bytes ht hi hz hsize hby hzs hsz v n xs hown ad m c news hl hnews h1 h63 hbytes;unfold Oper.wpIn;refine⟨by simp[Oper.about,ho,resolve,Target.leads,Sem.run_pure],?_⟩;rw[Oper.semAt_plain F _ _ (by rw[ho];intro c hc';cases hc')];simp[execOp,ho,resolve,invoke,builtin,hs,hx,hrun,Result.andThen];exact hK _ _ (h v' w' r1 r2 r3)
end
theorem Sd (t:Tr) (hl:∀e∈t.Ai,e.1.length=32):t.from (List.replicate 32 0)=t.Ai:=by
 unfold Tr.from;refine List.filter_eq_self.2 fun e he=>?_
 have:=Ld e.1;rw[hl e he] at this;unfold geK;rw[Bool.not_eq_true',decide_eq_false_iff_not];exact this
theorem Q8 {w:World} {b:Nat} {v:Value} {out:List Pr} (h:RowP w b v out) (hg:∀x∈out,x.Good w):∃ao cap,v=.slice ao out.length cap∧Bm w ao out:=by
 obtain⟨ao,cap,rfl⟩:=h.form;refine⟨ao,cap,rfl,hg,fun i x hx=>?_⟩;have hl:0<out.length:=by have:=(List.getElem?_eq_some_iff.1 hx).1;omega
 obtain⟨g,cap',cur,e1,_,hrow,hsz,hc,_⟩:=h.open (fun x hx=>(hg x hx).key) hl
 injection e1 with e1 _ _;subst e1;refine⟨g,0,rfl,cur,_,_,hrow,?_,?_⟩
 · rw[Pr.size (hg x (List.mem_of_getElem? hx)).key]
   have:=(List.getElem?_eq_some_iff.1 hx).1;omega
 rw[Pr.size (hg x (List.mem_of_getElem? hx)).key,Nat.zero_add];exact hc i x hx
theorem Hp {w:World} {base n sz g:Nat} {e:TypeId} {v:Value} {xs:List Value} (h:w.ownsRow base e sz v n xs) (hk:v.ownBlock=some g):∃cur,w.heap[g]?=some (.cells cur e (0,0)):=by
 rcases h.2 with⟨rfl,_⟩|⟨g',cap,cur,rfl,_,h2,_⟩
 · cases hk
 cases hk;exact⟨cur,h2⟩
structure SdI (w3:World) (B7:Nat) (pre:List Pr) (v:Value) (W:World):Prop where
 ch:Ch (fun k=>k=B7) w3 W
 r7:W.heap[B7]?=some (.cells #[v] 33 (0,0))
 row:RowP W w3.heap.size v pre
 vals:∀x∈pre,x.key.length=32∧BM W w3.heap.size x.vv x.val
section
variable {w3 W W' : World} {B7 : Nat} {pre : List Pr} {v : Value}
theorem BM.u8 {n0 g:Nat} {bs:List UInt8} (h:BM W n0 v bs) (hk:v.ownBlock=some g):∃cur,W.heap[g]?=some (.cells cur 5 (0,0)):=by
 rcases h with⟨rfl,_⟩|⟨g',c,all,rfl,_,h2,_⟩
 · cases hk
 cases hk;exact⟨_,h2⟩
theorem SdI.Xk (h:SdI w3 B7 pre v W) {row:Option Nat} (hg:W.grownBy W' row) (hr:∀k,row=some k→w3.heap.size≤k∧∃o:Obj,W.heap[k]?=some o∧o.isCells=false) (hB:B7<w3.heap.size):SdI w3 B7 pre v W':=by
 have hc:Ch (fun k=>row=some k) W W':=(Ch.refl _ W).grown hg (fun k hk=>.inl hk)
 have no:∀ {k cur t fr},W.heap[k]?=some (.cells cur t fr)→row≠some k:=fun {k cur t fr} hk e=>by
  obtain⟨_,o,ho,hcl⟩:=hr k e;rw[hk] at ho;cases ho;cases hcl
 refine⟨h.ch.trans hc (fun k hk=>.inr (hr k hk).1),hc.row h.r7 (no h.r7),hc.owns h.row (fun k hk e=>?_),fun x hx=>⟨(h.vals x hx).1,(h.vals x hx).2.Am hc (fun k hk e=>?_)⟩⟩
 · obtain⟨cur,hcur⟩:=Hp h.row hk
   exact no hcur e
 obtain⟨cur,hcur⟩:=(h.vals x hx).2.u8 hk;exact no hcur e
theorem SdI.Am (h:SdI w3 B7 pre v W) (a:Adds W W'):SdI w3 B7 pre v W' :=
 ⟨h.ch.trans a (fun _=>fEq),a.row h.r7 id,a.owns h.row (fun _ _ h=>h),fun x hx=>⟨(h.vals x hx).1,(h.vals x hx).2.Am a (fun _ _ h=>h)⟩⟩
theorem SdI.push (h:SdI w3 B7 pre v W) (hB:B7<w3.heap.size) {w2 w4:World} {x:Pr} {v':Value} {n0:Nat} (a:Adds W w2) (hx:x.key.length=32) (hn0:n0=w3.heap.size) (hb:BM w2 n0 x.vv x.val)
 (own:w4.ownsRow 0 141 33 v' (pre.length+1) (BG pre++x.cells.toList)) (hg:w2.grownBy w4 v.ownBlock) (loc:v'.ownBlock=v.ownBlock∨∀k,v'.ownBlock=some k→w2.heap.size≤k) :
 SdI w3 B7 (pre ++ [x]) v' (w4.setCell ⟨B7,0,none⟩ v')∧Ch (fun k=>k=B7∨v.ownBlock=some k) W (w4.setCell ⟨B7,0,none⟩ v'):=by
 have h2:=h.Am a;have hc:Ch (fun k=>v.ownBlock=some k) w2 w4:=(Ch.refl _ w2).grown hg (fun k hk=>.inl hk);have hlow:∀k,v.ownBlock=some k→w3.heap.size≤k:=fun k hk=>(h.row.lt k hk).1
 have hne:∀k,v.ownBlock=some k→k≠B7:=fun k hk e=>by have:=hlow k hk;omega
 have hs2:=h2.ch.size
 have hlow':∀k,v'.ownBlock=some k→w3.heap.size≤k:=fun k hk=>by
  rcases loc with e|e
  · rw[e] at hk;exact hlow k hk
  have:=e k hk;omega
 have r4:=hc.row h2.r7 (fun e=>hne _ e rfl);have hS:Ch (fun k=>k=B7) w4 (w4.setCell ⟨B7,0,none⟩ v'):=(Ch.refl (fun k=>k=B7) w4).setCell (p:=⟨B7,0,none⟩) (.inl rfl) _;have hC:Ch (fun k=>k=B7∨v.ownBlock=some k) w2 (w4.setCell ⟨B7,0,none⟩ v'):=Ch.BN (hc.mono (fun _ _ h=>.inr h)) (hS.mono (fun _ _ h=>.inl h))
 have nob:∀ {g cur},w2.heap[g]?=some (.cells cur 5 (0,0))→v.ownBlock≠some g:=fun {g cur} hcur e=>by
  obtain⟨c',hc'⟩:=Hp h2.row e;rw[hcur] at hc';simp at hc'
 refine⟨⟨h2.ch.trans hC (fun k hk=>?_),Aa r4 0 v',?_,fun y hy=>?_⟩,Ch.BN (a.mono (fun _ _ h=>h.elim)) hC⟩
 · rcases hk with hk|hk
   · exact .inl hk
   exact .inr (hlow k hk)
 · have hfl:BG (pre ++ [x])=BG pre++x.cells.toList:=by rw[GH];simp[BG]
   unfold RowP;rw[hfl,List.length_append,List.length_singleton];exact hS.owns (own.base hlow') (fun k hk e=>by have:=hlow' k hk;omega)
 have aux:∀ {z:Value} {bs:List UInt8},BM w2 w3.heap.size z bs→BM (w4.setCell ⟨B7,0,none⟩ v') w3.heap.size z bs:=fun {z bs} hz=>hz.Am hC (fun k hk e=>by
  rcases e with e|e
  · have:=(hz.lt k hk).1;omega
  obtain⟨cur,hcur⟩:=hz.u8 hk;exact nob hcur e)
 rcases List.mem_append.1 hy with hy|hy
 · exact⟨(h2.vals y hy).1,aux (h2.vals y hy).2⟩
 obtain rfl:=List.mem_singleton.1 hy;exact⟨hx,aux (hn0▸hb)⟩
end
section
variable {w : World} {s : Nat} {F : Nat→Prop} {σ : AD Nd} {root : Int} {t : Tr}
theorem Uc (h:At w s F σ) (G:Good σ) (hr:Rep (sk σ) root 0 t) (hre:An σ root=0) (hlv:t.leaves≤4096) :
 Calls Tryz.prog 28 #[.pointer (some ⟨s,0,none⟩),.int .i64 root] w fun e w'=>e=.returned (.tuple #[.bool true,.int .i64 0])∧Adds w w':=by
 have a0:Adds w (w.alloc (.cells (Ci [root]).toArray 3)):=(Ch.refl _ w).alloc _;have hi:=Gv w [root];have hck:=Fb (h.adds a0) 1 hi (by simp);have hcz:chk σ [root]=0:=by unfold chk;rw[if_neg (by simp)];exact FX.2 (fun x hx=>by simp at hx;subst hx;exact hre)
 rw[hcz] at hck;have hsz:=fun w1 (a:Adds w w1)=>Qr (h.adds a) root
 have hz0:(nd σ root).size=(t.leaves:Nat):=(DA h G hr).1;rw[hz0] at hsz;obtain⟨hE1,_,hE3⟩:=hr.Ai G.fit;have hall:=fun w1 (a:Adds w w1)=>Ws (S:=.pointer (some ⟨s,0,none⟩)) (R:=fun q w'=>WN w1.heap.size w' (t.from (List.replicate 32 0)) q∧Adds w1 w') (Vm (h.adds a) G hr hre (List.replicate 32 0) rfl) ⟨_,rfl⟩
 rw[Sd t (fun e he=>(hE1 e he).1)] at hall;have hdg:=fun w1 (a:Adds w w1)=>El (h.adds a) root
 have hde:Al σ root=(tree 256 t.Ai).dig:=by rw[Da,hr.dig G.fit, ←Rep.canon G.fit hr 256 rfl]
 have hdl:(tree 256 t.Ai).dig.length=32:=by rw[←hde];exact h.Ab root
 obtain⟨E,hE⟩:∃E,E=AJ (tree 256 t.Ai).dig:=⟨_,rfl⟩
 rw[hde, ←hE] at hdg;obtain⟨Z,hZ⟩:∃Z,Z=AJ (List.replicate 32 0):=⟨_,rfl⟩
 have hzd:=De;have hzp:=Gf;rw[←hZ] at hzd hzp;have hEs:E.size=32∧∀v∈E.toList,v.oneCell'=true:=by rw[hE];exact⟨by rw[AY];exact hdl,Aq _⟩
 have heq:=GW 85 Tryz.underlying85 (tree 256 t.Ai).dig (tree 256 t.Ai).dig hdl hdl;rw[←hE,decide_eq_true rfl] at heq;obtain⟨i0,z0,p1,p2,p3,p4,p5⟩:=I8;have HI:=(hIq p1 (aIq p2 (aIq p3 (aIq p4 p5))))
 have HZ:=(hIq hzd (aIq (by rw[hZ];rfl:Z.size=32) hzp))
 have HE:=(hIq hEs hE)
 have HT:=(hIq hE1 (aIq hE3 (show t.Ai.length≤4096 by rw[Tr.Ca];exact hlv)))
 have HQ:=(hIq hck (aIq hsz (aIq hall hdg)))
 obtain⟨lv,hlvv⟩:∃lv,lv=t.leaves:=⟨_,rfl⟩
 rw[←hlvv] at HQ hlv;have hlz:decide ((4096:Int)<(lv:Int))=false:=decide_eq_false (by omega);have hlz':¬((4096:Int)<(lv:Int)):=by omega
 clear h G hr hre hi hck hcz hsz hz0 hall hdg hE hde hdl hZ hzd hzp hEs a0 hE1 hE3 p1 p2 p3 p4 p5 hlvv hlv;refine(callsIn_wide (n:=4)).1 ?_;refine callsIn_of_wp_marks Tryz.func28 rfl trivial ?_ rfl;refine wpIn_wide.2 ?_;simp only[Tryz.ntmps28,List.size_toArray,List.length_cons,List.length_nil,Nat.reduceAdd,Nat.reduceSub,Array.replicate_succ,Array.replicate_zero,List.push_toArray,List.append_toArray,List.nil_append,List.cons_append];go_wp2_with fail;refine HQ.out.1.mono ?_;rintro e w1 ⟨rfl,a1⟩;have A1:=Lib.hid (((Ch.refl (fun _=>False) w).alloc (.cells (Ci [root]).toArray 3)).trans a1 (fun _=>fEq));clear a1;go_wp2_with fail;refine(HQ.out.2.1 _ A1.out).mono ?_;rintro e w2 ⟨rfl,a2⟩;have A2:=Lib.hid (A1.out.trans a2 (fun _=>fEq));clear a2 A1;have HALL:=Lib.hid (HQ.out.2.2.1 (w2.alloc (.cells #[.slice none 0 0] 33)) (A2.out.alloc _));go_wp2_with fail;refine HALL.out.mono ?_;rintro e w3 ⟨q,rfl,hq,a3⟩;obtain⟨b0,v0,out,rfl,hbb,hrow,htold,hout,hvb,hxb⟩:=hq;obtain⟨B7,hB7⟩:∃B,B=w2.heap.size:=⟨_,rfl⟩
 have ol:out.length≤4096:=by have h1:=congrArg List.length hout;rw[List.length_map] at h1;have:=HT.out.2.2;omega
 have ov:∀x∈out,x.val.length≤1024:=fun x hx=>(HT.out.1 _ (by rw[←hout];exact List.mem_map_of_mem hx)).2
 have r7:w3.heap[B7]?=some (.cells #[.slice none 0 0] 33 (0,0)):=by rw[hB7];exact a3.row (heap_alloc_new w2 _) id
 have h73:=Ad r7;have HSEQ:=Lib.hid (Te (G:=fun k=>k=B7) 3 (by omega) b0 (w2.alloc (.cells #[.slice none 0 0] 33)).heap.size (fun k hk=>by rw[hk,hB7];simp) v0 out w3 hrow (htold.WU (Nat.le_refl _)) (by omega) ov);have A3:=(hIq ((A2.out.alloc (.cells #[.slice none 0 0] 33)).trans a3 (fun _=>fEq)) (aIq r7 (aIq h73 (aIq (show w.heap.size≤B7 by rw[hB7];exact A2.out.size) hB7))))
 have HO:=(hIq hout (aIq ol ov))
 have hnil:∀(w:World),(Go.binOp BinOp.eql 44 (Value.func (Fn.func 166) #[] #[.pointer (some ⟨b0,0,none⟩)]) Value.nilFunc).run Tryz.prog w=Result.ok (Value.bool false) w:=fun w=>by kernel_rfl
 clear hrow htold hout hvb hxb hbb a3 r7 HALL ol ov h73;rw[←hB7];clear hB7;go_wp2_with fail;clear hnil;refine Vn (fun A0 hA0=>?_);have HA0:=Lib.hid hA0;refine(wpIn_wide (n:=4)).1 ?_
 refine NJ (α:=Pr) rfl (by omega) (gf:=166) (by rw[hA0];rfl) trivial (enters_of Tryz.func166 (by kernel_rfl) rfl) HSEQ.out Wh (XS (Nat.le_refl _)) (Below.refl _ _) (fun _=>rfl)
  (fun pre W=>(∃v,SdI w3 B7 pre v W)∧pre.map Pr.ent=t.Ai.take pre.length) (fun _ _ _=>False)
  (fun st W W' row hs hg hr=>⟨hs.1.imp fun v hv=>hv.Xk hg hr A3.out.2.2.1,hs.2⟩) (fun c=>fun st W W' row hs hg hr=>hs) ⟨⟨_,Ch.refl _ _,A3.out.2.1,RowP.nil _ _,fun x hx=>absurd hx List.not_mem_nil⟩,rfl⟩
  (fun pre x a W=>∃p,a = { tmps:=(((A0.tmps.setIfInBounds 26 (.agg (AJ x.key))).setIfInBounds 27 x.vv).setIfInBounds 8 (.pointer (some ⟨p,0,none⟩))).setIfInBounds 9 x.vv,defers := [] } ∧ ((∃v,SdI w3 B7 pre v W)∧pre.map Pr.ent=t.Ai.take pre.length)∧Yv w3.heap.size out pre x W∧W.heap[p]?=some (.cells (AJ x.key) 24 (0,0)))
  (fun pre x a W l o o' h hl hW ho=>by
   obtain⟨p,h1,h2,h3,h4⟩:=h;refine⟨p,h1,⟨h2.1.imp fun v hv=>hv.Xk (grownBy_putObj' _ l o') (fun k hk=>by cases hk;exact⟨hl,_,hW,ho⟩) A3.out.2.2.1,h2.2⟩,h3.put hW ho,?_⟩;by_cases e:l=p
   · subst e
     rw[h4] at hW;cases hW;cases ho
   exact(World.putObj_heap_other (Ne.symm e)).trans h4) ?assign ?body ?done ?stop
 case assign =>
  intro l0 pre x W hI hY hlt;obtain⟨K,hK⟩:∃K,K=AJ x.key:=⟨_,rfl⟩
  have hKs:K.size=32:=by obtain⟨y,_,_,h,_⟩:=hY;rw[hK,AY,h]
  have HK:=(hIq hKs (by rw[hK];exact Aq _:∀v∈K.toList,v.oneCell'=true))
  have hfin:KeepsOthers W ((W.alloc (.cells Z 24)).setRow W.heap.size K)∧Jj w3.heap.size (fun k=>k=B7) W ((W.alloc (.cells Z 24)).setRow W.heap.size K)∧(∃v,SdI w3 B7 pre v ((W.alloc (.cells Z 24)).setRow W.heap.size K))∧Yv w3.heap.size out pre x ((W.alloc (.cells Z 24)).setRow W.heap.size K)∧((W.alloc (.cells Z 24)).setRow W.heap.size K).heap[W.heap.size]?=some (.cells K 24 (0,0)):=by
   have a:Adds W ((W.alloc (.cells Z 24)).setRow W.heap.size K):=((Ch.refl _ _).alloc _).setRow (.inr (Nat.le_refl _)) _;exact⟨OI a (fun _=>fEq),a.mono (fun _ _ h=>h.elim),hI.1.imp fun v hv=>hv.Am a,hY.Am a,AF (heap_alloc_new _ _) _⟩
  have HF2:=(hIq hfin hI.2)
  have HKK:=Lib.hid hK;dsimp only;rw[←hK];clear hfin hI hY hK hKs;rw[VS];rw[hA0];clear hA0;simp only[List.setIfInBounds_toArray,List.set_cons_succ,List.set_cons_zero]
  gi_wp2_with (first
   | fail
   | ((with_reducible show wpListIn _ _ _ _ _ (⟨_,.alloc 24,_,_,_,_⟩::_) _ _);refine E7 rfl 24 rfl (.agg Z) HZ.out.2.2 ?_;dsimp only[Value.cells];try simp only[World.size_alloc])
   | ((with_reducible show wpListIn _ _ _ _ _ (⟨_,.store 24 _ _,_,_,_,_⟩::_) _ _);go_must (refine Eb rfl 24 _ _ rfl W.heap.size 0 K rfl rfl (heap_alloc_new _ _) (by rw[Au,HK.out.1]) (by rw[HK.out.1,HZ.out.2.1];omega) HK.out.2 K (by rw[AI _ _ (by rw[Array.length_toList,Array.length_toList,HK.out.1,HZ.out.2.1])]) ?_)))
  refine⟨HF2.out.1.1,HF2.out.1.2.1,W.heap.size,?_,⟨HF2.out.1.2.2.1,HF2.out.2⟩,HF2.out.1.2.2.2.1,HF2.out.1.2.2.2.2⟩;rfl
 case body =>
  rintro l0 pre x a W ⟨p,rfl,⟨⟨v,hI⟩,hpre⟩,hY,hrow⟩ hlt;obtain⟨y,hy,hxe,hk32,hv1,hbr⟩:=hY
  have hE:t.Ai[pre.length]?=some (x.key,x.val):=by
   rw[←HO.out.1,List.getElem?_map,hy];exact congrArg some hxe.symm
  have hnew:(pre ++ [x]).map Pr.ent=t.Ai.take (pre ++ [x]).length:=by
   rw[List.length_append,List.length_singleton,List.take_add_one,hE,List.map_append,hpre];rfl
  obtain⟨m,hm⟩:∃m,m=pre.length:=⟨_,rfl⟩
  have hm4:m≤4096:=by have:=HO.out.2.1;omega
  obtain⟨vo,vc,rfl⟩:=hI.row.form;obtain⟨K,hK⟩:∃K,K=AJ x.key:=⟨_,rfl⟩
  have hKs:K.size=32:=by rw[hK,AY,hk32]
  obtain⟨xo,xc,hxv,_⟩:=hbr.bytes.form;obtain⟨C,hC⟩:∃C,C=K++#[x.vv]:=⟨_,rfl⟩
  have hpb:=Hq K xo x.val.length xc hKs;rw[←hxv, ←hC] at hpb
  have hCx:C=x.cells:=by
   rw[hC,hK];apply Array.ext';simp[Pr.cells,AJ]
  have hCs:C.size=33:=by rw[hC,Array.size_append,hKs];rfl
  have hC1:∀u∈C.toList,u.oneCell'=true:=by rw[hCx];exact Pr.one (w:=W) ⟨hk32,hbr.bytes,fun _ q hq=>(hbr.lt q hq).2⟩
  rw[hxv] at hpb;have c7:=AG hI.r7 (i:=0) rfl;have f7:=Ao hI.r7 0;have l7:=Ad hI.r7;rw[←hK] at hrow;rw[←hm] at c7;have hownW:=hI.row;unfold RowP at hownW;rw[←hm] at hownW;have HC:=(hIq hCx (aIq hCs (aIq hC1 hpb)))
  have HX:=(hIq hk32 (aIq hbr (aIq hnew hm)))
  have HII:=(hIq hI (aIq hrow hownW))
  have HKS:=(hIq hKs hK)
  rw[←hK];rw[hA0];clear hA0 hy hxe hv1 hE hnew hpre hK hKs hC hpb hCx hCs hC1 hrow hownW hlt hI hbr hm hk32;rw[hxv];simp only[List.setIfInBounds_toArray,List.set_cons_succ,List.set_cons_zero]
  gi_wp2_with (first
   | fail
   | ((with_reducible show wpListIn _ _ _ _ _ (⟨_,.load 24 _,_,_,_,_⟩::_) _ _);refine Eu rfl 24 _ rfl p 0 rfl HII.out.2.1 Tryz.underlying24 rfl Au (by rw[HKS.out.1];omega) K (by have:=HKS.out.1;simp[←this]) ?_)
   | ((with_reducible show wpListIn _ _ _ _ _ (⟨_,.build 141 _,_,_,_,_⟩::_) _ _);refine Hy rfl 141 0 1 _ _ rfl (.agg K) (.slice xo x.val.length xc) rfl rfl C HC.out.2.2.2 ?_)
   | ((with_reducible show wpListIn _ _ _ _ _ (⟨_,.buildSlice 33 _ _,_,_,_,_⟩::_) _ _);refine FZ rfl 33 _ rfl 141 i0 z0 (.agg C) rfl Tryz.underlying33 HI.out.1 HI.out.2.1 (by rw[HI.out.2.2.1];decide) (by rw[HI.out.2.2.1];decide) (by rw[HI.out.2.2.1];exact HC.out.2.1) ?_)
   | (refine Ga rfl _ _ 33 rfl 141 i0 z0 33 56 Tryz.underlying33 HI.out.1 HI.out.2.1 HI.out.2.2.1 HI.out.2.2.2.1 HI.out.2.2.2.2 (by decide) (.slice vo m vc) m (BG pre) rfl ((((Ch.refl (fun _=>False) W).alloc (.cells C 141)).owns HII.out.2.2 (fun _ _ h=>h)).base (fun _ _=>Nat.zero_le _)) ⟨W.heap.size,0,none⟩ 1 1 C.toList rfl (by rw[Array.length_toList,HC.out.2.1]) (Dn (heap_alloc_new W (.cells C 141))) HC.out.2.2.1 (by unfold maxLen;omega) (by omega) ?_;intro v' w4 own' grow' loc';obtain⟨o8,c8,rfl⟩:=Ar own';have d7:w4.heap[B7]?=some (.cells #[.slice vo m vc] 33 (0,0)):=(grow'.block B7 (by simp;omega) (fun e=>by have:=(HII.out.2.2.lt B7 e.symm).1;have:=A3.out.2.2.1;omega)).trans (AM (by have:=HII.out.1.r7;rw[←HX.out.2.2.2] at this;exact this) _);have q7:=AG d7 (i:=0) rfl;have qf:=Ao d7 0;have ql:=Ad d7;have H4:=(hIq own' (aIq grow' loc'));clear own' grow' loc' d7))
  have hp:=HII.out.1.push A3.out.2.2.1 (x:=x) ((Ch.refl (fun _=>False) W).alloc (.cells C 141)) HX.out.1 rfl (HX.out.2.1.Am ((Ch.refl (fun _=>False) W).alloc (.cells C 141)) (fun _ _ h=>h)) (by rw[←HX.out.2.2.2, ←HC.out.1];exact H4.out.1) (by rw[←HX.out.2.2.2];exact H4.out.2.1) (by rw[←HX.out.2.2.2];exact H4.out.2.2);rw[←HX.out.2.2.2] at hp;refine⟨OI hp.2 (fun k hk=>?_),hp.2.mono (fun k hk h=>?_),⟨_,hp.1⟩,HX.out.2.2.1⟩
  · rcases hk with rfl|hk
    · exact⟨_,_,_,HII.out.1.r7⟩
    obtain⟨cur,hcur⟩:=Hp HII.out.2.2 hk;exact⟨_,_,_,hcur⟩
  rcases h with h|h
  · exact .inr h
  exact .inl (HII.out.2.2.lt k h).1
 case done =>
  intro D xs W hD hS hI hK;obtain⟨⟨v,hv⟩,_⟩:=hI;have hxs:xs.map Pr.ent=t.Ai:=hS.trans HO.out.1;have hgood:∀x∈xs,x.Good W:=fun x hx=>⟨(hv.vals x hx).1,(hv.vals x hx).2.bytes,fun _ k hk=>((hv.vals x hx).2.lt k hk).2⟩
  obtain⟨ao,cap,rfl,hpa⟩:=Q8 hv.row hgood;have c7:=AG hv.r7 (i:=0) rfl;have hrt:=CI.IV (w:=W) cap hpa
  have hfine:FC xs:=by
   refine⟨?_,fun x hx=>?_,?_⟩
   · have h1:=congrArg List.length hxs
     rw[List.length_map] at h1;have:=HT.out.2.2;omega
   · exact(HT.out.1 _ (by rw[←hxs];exact List.mem_map_of_mem hx)).2
   have h1:xs.map (·.key)=t.Ai.map Prod.fst:=by rw[←hxs,List.map_map];rfl
   rw[h1]
   exact List.pairwise_map.2 (HT.out.2.1.imp fun {a b} h e=>by
    unfold Ltk at h;rw[e,Fg] at h;omega)
  have aW:Adds w W:=A3.out.1.trans hv.ch (fun k hk=>.inr (by rw[hk];exact A3.out.2.2.2.1));have hDw:w.heap.size≤D:=Nat.le_trans A3.out.1.size hD;obtain⟨n,hn⟩:∃n,n=xs.length:=⟨_,rfl⟩
  rw[←hn] at hrt c7;have AW:=(hIq aW (aIq hK (aIq hDw hD)))
  have HRT:=Lib.hid hrt;have HFI:=(hIq hfine hxs)
  rw[hA0];clear hA0 hv hK hD hrt hpa hgood hfine hxs hS aW hDw hn;go_wp2_with fail;refine HRT.out.mono ?_;rintro e W2 ⟨a2,hb,c,rfl,hb1,hfi,hfd⟩;obtain rfl:c=0:=hfi.2 HFI.out.1;have hbe:hb=(tree 256 t.Ai).dig:=by rw[hfd HFI.out.1,HFI.out.2]
  rw[hbe, ←HE.out.2];have hK2:W2.heap[D]?=some (.deferred (some [])):=a2.row AW.out.2.1 id;have A2':=(hIq (AW.out.1.trans a2 (fun _=>fEq)) (aIq hK2 a2.size))
  clear a2 hfi hfd hbe hb1 hK2 c7 HRT
  go_upto_region 11 with(first
   | fail
   | ((with_reducible show zOq (.alloc 85));refine AH rfl 85 rfl (.agg Z) HZ.out.1 ?_;dsimp only[Value.cells];try simp only[World.size_alloc])
   | ((with_reducible show zOq (.store 85 _ _));refine AE rfl 85 _ _ rfl W2.heap.size 0 E rfl rfl (heap_alloc_new _ _) (by rw[BW,HE.out.1.1]) (by rw[HE.out.1.1,HZ.out.2.1];omega) HE.out.1.2 E (by rw[AI _ _ (by rw[Array.length_toList,Array.length_toList,HE.out.1.1,HZ.out.2.1])]) ?_))
  obtain⟨w4,hw4⟩:∃w4,w4=(W2.alloc (.cells Z 85)).setRow W2.heap.size E:=⟨_,rfl⟩
  rw[←hw4];have a4:Adds W2 w4:=by rw[hw4];exact((Ch.refl _ _).alloc _).setRow (.inr (Nat.le_refl _)) _
  have r4:w4.heap[W2.heap.size]?=some (.cells E 85 (0,0)):=by rw[hw4];exact AF (heap_alloc_new _ _) _
  obtain⟨B,hB⟩:∃B,B=W2.heap.size:=⟨_,rfl⟩
  rw[←hB] at r4 ⊢;have H4:=(hIq (A2'.out.1.trans a4 (fun _=>fEq)) (aIq r4 (a4.row A2'.out.2.1 id)))
  have H4D:RowKit.Hid (Adds w w4.drew):=Lib.hid (H4.out.1.trans (Ch.refl (fun _=>False) w4).drew (fun _=>fEq));clear a4 r4 hw4 hB;go_wp2;refine AS (fun wz=>Adds w wz∧wz.heap[B]?=some (.cells E 85 (0,0))∧wz.heap[D]?=some (.deferred (some []))) 11 [(0,false),(1,false),(2,false),(3,false),(4,false),(5,false),(6,true),(7,false),(8,false),(9,false),(10,false)] (by kernel_rfl) (by kernel_rfl) ?_ ?_
  · exact⟨H4D.out,AQ H4.out.2.1,AQ H4.out.2.2⟩
  iterate 3
   refine plan_look rfl rfl (fun w0 hS=>(by clear hS;go_simp;try rfl)) ?_;simp only[Act.put,nAq,nBq,nCq]
  refine CI.Cn (cur:=E) (t:=85) (fr:=(0,0)) rfl rfl 85 _ rfl B 0 32 rfl (fun w0 hS=>hS.2.1) Tryz.underlying85 rfl BW (by rw[HE.out.1.1];omega) E (by have:=HE.out.1.1;simp[←this]) ?_;simp only[Act.put,nAq,nBq,nCq]
  iterate 2
   refine plan_look rfl rfl (fun w0 hS=>(by clear hS;go_simp;try rfl)) ?_;simp only[Act.put,nAq,nBq,nCq]
  refine Ah rfl ?_;go_wp2_with fail;refine(HQ.out.2.2.2 _ H4D.out).mono ?_;rintro e w5 ⟨rfl,a5⟩;have H5:=(hIq (H4D.out.trans a5 (fun _=>fEq)) (aIq (a5.row (AQ H4.out.2.1) id) (a5.row (AQ H4.out.2.2) id)))
  clear a5;dsimp only;go_step;refine wpList_nil ?_;change _∧_;refine⟨H5.out,?_⟩;refine plan_look (v:=.bool true) rfl rfl (fun w0 hS=>(by clear hS;have:=heq w0;go_simp;try rfl)) ?_;simp only[Act.put,nAq,nBq,nCq]
  iterate 3
   refine plan_look rfl rfl (fun w0 hS=>(by clear hS;go_simp;try rfl)) ?_;simp only[Act.put,nAq,nBq,nCq]
  refine Ae ?_;simp only[List.drop_succ_cons,List.drop_zero];go_wp2;refine NoPanic.normal ?_;go_wp2;refine⟨by simp,.inl ⟨_,_,rfl,run_takeDeferred H5.out.2.2,?_⟩⟩;refine⟨.tuple #[.bool true,.int .i64 0],?_,rfl,H5.out.1.grown (grownBy_putObj' _ D (.deferred none)) (fun k hk=>.inr (by cases hk;exact AW.out.2.2.1))⟩;simp[results,Tryz.f28,go_sem]
 intro D c pre W hD hS hI;exact hI.elim
end
end Go.Proofs.YtooijgcildbnlaaGreat.Store
