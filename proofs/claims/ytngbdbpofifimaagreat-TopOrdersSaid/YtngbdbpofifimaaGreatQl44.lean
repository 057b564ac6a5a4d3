/- Laws of the layers below. -/
import Derived.Test.YtngbdbpofifimaaGreatQl43
set_option maxHeartbeats 3200000
set_option maxRecDepth 100000
set_option linter.unusedVariables false
namespace Go.Proofs.YtngbdbpofifimaaGreat.Law15
open Go.RowKit Go.Sort Go.Proofs.YtngbdbpofifimaaGreat.ShaW Go.Proofs.YtngbdbpofifimaaGreat.Path Go.Proofs.YtngbdbpofifimaaGreat.Store Go.Proofs.YtngbdbpofifimaaGreat.Law9 Go.Proofs.YtngbdbpofifimaaGreat.Law14
theorem Pn:Tryz.prog.underlying 30=some (.slice (Tryz.prog.elem 30)):=by kernel_rfl
theorem Tf:(Tryz.prog.info? (Tryz.prog.elem 30)).map (·.size)=some 3:=by kernel_rfl
theorem Tl (w:World):(sizeOf (Tryz.prog.elem 30)).run Tryz.prog w=.ok 3 w:=by
 have hs:=Tf;cases hq:Tryz.prog.info? (Tryz.prog.elem 30) with
 | none=>rw[hq] at hs;cases hs
 | some inf =>
  rw[hq] at hs;have hs':inf.size=3:=by simpa using hs
  simp[sizeOf,typeInfo,hq,hs']
theorem UQ (ao:Option Addr) (len cap i:Nat) (h:i≤cap) (w:World) :
 (Instr.sliceAt 30 (.slice ao len cap) none (some (.int .i64 (i:Int))) none).run Tryz.prog w=.ok (.slice ao i cap) w:=by
 rw[run_sliceAt_slice w _ _ _ _ _ Pn,run_slice_h w _ ao len cap Pn .i64 (i:Int) (by omega) (by omega)];simp only[Tl w,Result.andThen_ok,sliced,Int.toNat_natCast]
 have e:(if cap-0=0 then ao else ao.map (·.add (0*3)))=ao:=by
  split
  · rfl
  cases ao with
  | none=>rfl
  | some a=>rfl
 first|(rw[e];rfl)|simp_all
def L5 (x:CE):CE := { x with l:=x.l.take 8 }
theorem O8 {w:World} {x:CE} (h:x.Good w):(L5 x).Good w:=⟨h.kind,h.nm,h.key,h.kblk,h.val,h.vblk,⟨fun y hy=>h.raws.good y (List.mem_of_mem_take hy),h.raws.row.take 8⟩,⟨Nat.le_trans (by show(x.l.take 8).length≤x.l.length;rw[List.length_take];exact Nat.min_le_right _ _) h.len.1,h.len.2⟩,h.most⟩
theorem N6 {x:CE} (h:8<x.l.length):x.cells.setIfInBounds 4 (.slice x.ao 8 x.cap)=(L5 x).cells:=by
 have e:(L5 x).l.length=8:=by show(x.l.take 8).length=8;rw[List.length_take];omega
 unfold CE.cells;rw[e];rfl
def Vr (W:World) (e:Ending) (w':World):Prop:=∃d v s σ root L M,e=.returned (.tuple #[.pointer (some ⟨d,0,none⟩),.bool true])∧ZG W w' d v s 60000 σ root L M 1200000∧Small 160 L M
theorem YC {W:World} {ao:Option Addr} {l:List CE} (cap:Nat) (hl:I5 W ao l) (hla:∀a∈l,a.l.length*56≤140737488351232) (hll:l.length≤140737488351232) :
 Calls Tryz.prog 33 #[.slice ao l.length cap] W (Vr W):=by
 obtain⟨len,hlen⟩:∃n,n=l.length:=⟨_,rfl⟩
 have HL:=(hIq hl (aIq hla (aIq hll hlen)))
 rw[←hlen];have HNW:=Lib.hid (N3 60000 W (by decide) (by decide));clear hl hla hll hlen;go_enter Tryz.func33,Tryz.ntmps33;go_wp2_with fail;refine HNW.out.mono ?_;rintro e w1 ⟨d,v,s,rfl,hd⟩;have HD:=Lib.hid hd;clear hd HNW;go_wp2_with fail;refine(U0 w1).mono ?_;rintro e w2 ⟨rfl,a2⟩;have HD2:=Lib.hid (HD.out.adds a2);clear a2 HD;go_upto_region 4 with fail;go_wp2_with fail;go_loopg [6,7] (len+1) (fun g s6 s7 wr=>∃k σ root L M,s6=.int .i64 ((k:Nat):Int)∧k+g=len+1∧k≤len∧k≤20∧ZG W wr d v s 60000 σ root L M (60000*k)∧Small (8*k) L M)
 case atStart=>exact⟨0,_,_,_,_,rfl,by omega,by omega,by omega,⟨HD2.out,by decide,fun p hp=>by cases hp⟩,⟨Nat.le_refl _,fun p hp=>by cases hp⟩⟩
 obtain⟨k,σ,root,L,M,rfl,hk,hkl,hk20,hst,hsm⟩:=hrel;have HS:=(hIq hst (aIq hk (aIq hkl hk20)))
 have HSM:=Lib.hid hsm;clear hst hk hkl hk20 hsm
 iterate 2 go_step
 go_cut [29] (fun s29 wx=>s29=.bool (decide (k<len∧k<20))∧wx=wr)
 case first =>
  by_cases h1:k<len
  · have h1':(k:Int)<(len:Int):=by omega
    have h1'':decide ((k:Int)<(len:Int))=true:=decide_eq_true h1';by_cases h2:k<20
    · have h2':(k:Int)<20:=by omega
      have h2'':decide ((k:Int)<20)=true:=decide_eq_true h2';have H3:=Lib.hid (show decide (k<len∧k<20)=true from decide_eq_true ⟨h1,h2⟩);go_wp2;go_meet;exact⟨by rw[H3.out],rfl⟩
    have h2':¬(k:Int)<20:=by omega
    have h2'':decide ((k:Int)<20)=false:=decide_eq_false h2';have H3:=Lib.hid (show decide (k<len∧k<20)=false from decide_eq_false (fun h=>h2 h.2));go_wp2;go_meet;exact⟨by rw[H3.out],rfl⟩
  have h1':¬(k:Int)<(len:Int):=by omega
  have h1'':decide ((k:Int)<(len:Int))=false:=decide_eq_false h1';have H3:=Lib.hid (show decide (k<len∧k<20)=false from decide_eq_false (fun h=>h1 h.1));go_wp2;go_meet;exact⟨by rw[H3.out],rfl⟩
 obtain⟨rfl,rfl⟩:=hcut;by_cases hc:k<len∧k<20
 · rw[decide_eq_true hc]
   have hwk:wrap64 ((k:Int)+1)=(k:Int)+1:=by unfold wrap64;omega
   have hx1:(k:Int)<(len:Int):=by omega
   have hx1':k<len:=hc.1;obtain⟨x,hx⟩:∃x,l[k]?=some x:=⟨_,List.getElem?_eq_getElem (by have:=HL.out.2.2.2;omega)⟩
   obtain⟨g0,off,rfl,cur,ty,fr,c1,c2,c3⟩:=(HL.out.1.Af HS.out.1.dct.world (fun _=>fEq)).row k x hx;have hg:=HL.out.1.good x (List.mem_of_getElem? hx);obtain⟨C,hC⟩:∃C,C=x.cells:=⟨_,rfl⟩
   have hcs:C.size=6:=by rw[hC];rfl
   have hc1:∀v∈C.toList,v.oneCell'=true:=by rw[hC];exact(YI (hg.Af HS.out.1.dct.world (fun _=>fEq))).2
   rw[←hC] at c2 c3;rw[hcs] at c2 c3;have HC:=(hIq c1 (aIq c2 (aIq c3 (aIq hcs (aIq hc1 (aIq hC (aIq hg (HL.out.2.1 x (List.mem_of_getElem? hx)))))))))
   clear hx c1 c2 c3 hg hC hcs hc1
   go_upto_region 8 with(first
    | fail
    | ((with_reducible show zOq (.load 32 _));refine AG rfl 32 _ rfl g0 (off+k*6) rfl HC.out.1 Tryz.underlying32 rfl J4 (by have:=HC.out.2.1;omega) C HC.out.2.2.1 ?_)
    | ((with_reducible show zOq (.alloc 32));refine AI rfl 32 rfl (.agg VU) Rl ?_;dsimp only[Value.cells];try simp only[World.size_alloc])
    | ((with_reducible show zOq (.store 32 _ _));refine AE rfl 32 _ _ rfl wc.heap.size 0 C rfl rfl (heap_alloc_new _ _) (by rw[J4,HC.out.2.2.2.1]) (by rw[HC.out.2.2.2.1];exact Nat.le_of_eq (Nat.zero_add _)) HC.out.2.2.2.2.1 C (by rw[AJ _ _ (by rw[Array.length_toList,Array.length_toList,HC.out.2.2.2.1];rfl)]) ?_))
   refine BJ (fun w2 hw2=>?_);have a2:Adds wc w2:=by rw[hw2];exact((Ch.refl _ _).alloc _).setRow (.inr (Nat.le_refl _)) _
   have r2:w2.heap[wc.heap.size]?=some (.cells C 32 (0,0)):=by rw[hw2];exact AF (heap_alloc_new wc (.cells VU 32)) C
   obtain⟨b7,hb7⟩:∃b7,b7=wc.heap.size:=⟨_,rfl⟩
   rw[←hb7] at r2 ⊢;obtain⟨ll,hll⟩:∃ll,ll=x.l.length:=⟨_,rfl⟩
   have c4:=AH (i:=4) (v:=.slice x.ao ll x.cap) r2 (by rw[HC.out.2.2.2.2.2.1,hll];rfl);have hcap:=HC.out.2.2.2.2.2.2.1.len.1;rw[←hll] at hcap;have H2:=(hIq r2 (aIq a2 (aIq hb7 hll)))
   clear a2 hw2 hb7 hll;go_upto_if 39 with fail;go_cut [7] (fun s7 wx=>s7=.pointer (some ⟨b7,0,none⟩)∧∃y:CE,y.Good W∧y.l.length≤8∧wx.heap[b7]?=some (.cells y.cells 32 (0,0))∧Adds wc wx)
   case first =>
    by_cases h8:8<ll
    · have h8':(8:Int)<(ll:Int):=by omega
      have hup:=fun w0=>UQ x.ao ll x.cap 8 (by omega) w0
      have f4:=Al r2 4;have l4:=Ac r2
      have HR:RowKit.Hid ((w2.setCell ⟨b7,4,none⟩ (.slice x.ao 8 x.cap)).heap[b7]?=some (.cells (L5 x).cells 32 (0,0))):=Lib.hid (by
       rw[←N6 (by rw[←H2.out.2.2.2];exact h8), ←HC.out.2.2.2.2.2.1];exact AQ r2 4 _)
      clear r2;go_wp2;go_meet;exact⟨rfl,L5 x,O8 HC.out.2.2.2.2.2.2.1,by show(x.l.take 8).length≤8;rw[List.length_take];exact Nat.min_le_left _ _,HR.out,H2.out.2.1.setCell (.inr (Nat.le_of_eq H2.out.2.2.1.symm)) _⟩
    have h8':¬(8:Int)<(ll:Int):=by omega
    clear r2;go_wp2;go_meet;exact⟨rfl,x,HC.out.2.2.2.2.2.2.1,by have:=H2.out.2.2.2;omega,by have:=H2.out.1;rw[HC.out.2.2.2.2.2.1] at this;exact this,H2.out.2.1⟩
   obtain⟨rfl,y,hy,hy8,r3,a3⟩:=hcut;have hdo:=Xd (HS.out.1.dct.adds a3) hy (by omega) (by have:=HS.out.2.2.2;omega);obtain⟨D,hD⟩:∃D,D=y.cells:=⟨_,rfl⟩
   have hDs:D.size=6:=by rw[hD];rfl
   rw[←hD] at hdo r3;have HP:=(hIq hdo (aIq r3 (aIq hDs hy8)))
   clear hdo r3 hD hDs hy hy8 a3 r2 c4 hcap
   go_wp2_with (first
    | fail
    | ((with_reducible show zOq (.load 32 _));refine AG rfl 32 _ rfl b7 0 rfl HP.out.2.1 Tryz.underlying32 rfl J4 (by rw[HP.out.2.2.1];omega) D (by have:=HP.out.2.2.1;simp[←this]) ?_))
   refine HP.out.1.mono ?_;rintro e w5 ⟨rfl,σ',r,L',M',hs,hkp,hgr⟩;have hst:ZG W w5 d v s 60000 σ' r L' M' (60000*(k+1)):=⟨by rw[Nat.mul_succ];exact hs.dct,hkp.few HS.out.1.few,hkp.fit HS.out.1.fit⟩
   have hsm:Small (8*(k+1)) L' M':=(hgr _ HSM.out).le (by have:=HP.out.2.2.2;omega);have HN:=(hIq hst hsm)
   clear hs hkp hgr hst hsm;go_wp2;go_roundg (gk-1)
   case measure=>have:=HS.out.2;omega
   exact⟨k+1,σ',r,L',M',by first|(simp;done)|(simp[hwk];done),by have:=HS.out.2;omega,by omega,by omega,HN.out.1,HN.out.2⟩
 rw[decide_eq_false hc];go_wp2;go_ret2;exact⟨d,v,s,σ,root,L,M,rfl,⟨HS.out.1.dct.Ik (by have:=HS.out.2.2.2;omega),HS.out.1.few,HS.out.1.fit⟩,HSM.out.le (by have:=HS.out.2.2.2;omega)⟩
section
variable {w0 w w' : World} {d v s room tn : Nat} {G : Nat→Prop} {σ σ' : AD Nd} {root r : Int} {L L' : AS} {M M' : Nmd}
theorem Wt (h:Dct w0 w d v s G room σ root L M tn) (hl:M.length≤16) (num:Int):Calls Tryz.prog 34 #[.pointer (some ⟨d,0,none⟩),.int .i64 num] w fun e w'=>Adds w w'∧∃x,x∈FY M∧e=.returned (.string (BP x)):=by
 have hnm:=fun w1 (a:Adds w w1)=>TF (h.adds a) (by omega)
 obtain⟨ml,hml⟩:∃ml,ml=M.length:=⟨_,rfl⟩
 have HN:=Lib.hid hnm;have HML:=Lib.hid hml;have hn17:ml≤16:=by omega
 clear hnm h hl hml;go_enter Tryz.func34,Tryz.ntmps34;go_wp2_with fail;refine(HN.out _ ((Ch.refl _ _).alloc _)).mono ?_;rintro e w2 ⟨q,rfl,hq,a2⟩;rw[←HML.out] at hq;obtain⟨qo,qc,rfl,hro,hlen⟩:=NR.own hq;have hl2:(GX (En M)).length=ml:=by rw[Jm,GW,HML.out]
 have H2:=(hIq (((Ch.refl (fun _=>False) w).alloc _).trans a2 (fun _=>fEq)) (aIq (a2.owns (YR w []) (fun _ _ h=>h)) (aIq hro hl2)))
 clear hq hro hlen hl2 a2
 go_upto_region 2 with(first
  | fail
  | (at_builtin;refine I8 rfl _ _ rfl (.slice (some ⟨w.heap.size,0,none⟩) 1 1) 1 [[]] rfl H2.out.2.1 qo ml qc (GX (En M)) rfl H2.out.2.2.1 H2.out.2.2.2 (by omega) ?_;intro v' w3 own' grow' loc';have a3:Adds w w3:=H2.out.1.grown grow' (fun k hk=>.inr (by cases hk;exact Nat.le_refl _));obtain⟨no,nc,rfl⟩:=Aj own';have H3:=(hIq a3 own');clear own' grow' loc' a3))
 obtain⟨_,_,e1,hro3,_⟩:=NR.own H3.out.2;injection e1 with e1 _ _;rw[←e1] at hro3;obtain⟨n,hn⟩:∃n,n=1+ml:=⟨_,rfl⟩
 have hnr:MJ w3 no n M:=⟨hro3,by rw[O3, ←HML.out];omega⟩
 have hn0:0<n:=by omega
 have hpk:=fun w1=>Lr num n hn0 (by omega) w1
 have hpi:=OH num hn0;obtain⟨pk,hp⟩:∃i:Nat,pick num n=i:=⟨(pick num n).toNat,by omega⟩
 rw[hp] at hpk hpi;have hpn:pk<n:=by omega
 have hpn':(pk:Int)<(n:Int):=by omega
 obtain⟨g0,off,x,rfl,hx,hmem,hc⟩:=hnr.cell hpn;obtain⟨S,hS⟩:∃S,S=BP x:=⟨_,rfl⟩
 rw[←hS] at hc;have HP:=(hIq hpk (aIq hmem hS))
 rw[←hn];clear hro3 e1 hnr hn hpk hpi hp hx hmem hS;go_wp2_with fail;refine(HP.out.1 _).mono ?_;rintro e w4 ⟨rfl,rfl⟩;go_wp2;go_ret;exact⟨H3.out.1,x,HP.out.2.1,by rw[HP.out.2.2];rfl⟩
end
theorem J5 {P:Program} {fn:Func} {R:Ending→World→Prop} {a:Act} {w:World} {p u q:Tmp} {ty t:TypeId} {g:Nat} {cs:Array Value} {fr:Nat×Nat} {d:TypeDesc} (h:fn.results=#[.tmp u,.cell p ty,.tmp q]) (hp:a.tmps.getD p undef=.pointer (some ⟨g,0,none⟩)) (hg:w.heap[g]?=some (.cells cs t fr))
 (hu:P.underlying ty=some d) (hd:d.isRow=true) (hi:(P.info? ty).map (·.size)=some cs.size) (hdef:a.defers = []) (hR:R (.returned (.tuple #[a.tmps.getD u undef,.agg cs,a.tmps.getD q undef])) w):bodyPost P fn R .ret a w:=by
 refine bodyPost_ret (v:=.tuple #[a.tmps.getD u undef,.agg cs,a.tmps.getD q undef]) ?_ hdef hR;have:=Bc (P:=P) w (off:=0) hg hu hd hi (by simp);simp at this;simp only[Array.getD_eq_getD_getElem?] at hp;simp[results,h,hp,asAddr,this]
theorem Told.down {b b':Nat} {w:World} {v:Value} {out:List Pr} (h:Store.Told b w v out) (hb:b'≤b):Store.Told b' w v out :=
 ⟨h.row.base (fun k hk=>Nat.le_trans hb (h.row.lt k hk).1),fun x hx=>by obtain⟨p,q,r⟩:=h.vals x hx;exact⟨p,q,fun k hk=>⟨Nat.le_trans hb (r k hk).1,(r k hk).2⟩⟩,h.apart⟩
theorem Told.stay {F:Nat→Prop} {b:Nat} {w w':World} {v:Value} {out:List Pr} (h:Store.Told b w v out) (hc:Ch F w w') (hF:∀k,F k→k<b):Store.Told b w' v out :=
 ⟨hc.owns h.row (fun k hk hf=>by have:=(h.row.lt k hk).1;have:=hF k hf;omega),fun x hx=>by
  obtain⟨p,q,r⟩:=h.vals x hx;exact⟨p,q.Af hc (fun k hk hf=>by have:=(r k hk).1;have:=hF k hf;omega),fun k hk=>⟨(r k hk).1,Nat.lt_of_lt_of_le (r k hk).2.1 hc.size,(r k hk).2.2⟩⟩,h.apart⟩
section
variable {w0 w w' : World} {d v s room tn : Nat} {G : Nat→Prop} {σ σ' : AD Nd} {root r : Int} {L L' : AS} {M M' : Nmd} {x : List UInt8}
def R0 (w:World) (LX:AS) (e:Ending) (w':World):Prop:=Adds w w'∧∃v out,e=.returned (.tuple #[v,.agg (AK (tree 256 LX).dig),.bool true])∧Store.Told w.heap.size w' v out∧out.length=LX.length∧Df out∧tree 256 (out.map Pr.ent)=tree 256 LX
theorem Qc (h:Dct w0 w d v s G room σ root L M tn) (hx:x∈FY M) (h256:(Cv L M x).length≤256):Calls Tryz.prog 35 #[.pointer (some ⟨d,0,none⟩),.string (BP x)] w (R0 w (Cv L M x)):=by
 obtain⟨S,hS⟩:∃S,S=BP x:=⟨_,rfl⟩
 obtain⟨LX,hLX⟩:∃LX,LX=Cv L M x:=⟨_,rfl⟩
 have hso:=fun w1 (a:Adds w w1) kv (hk:Bytes w1 kv (List.replicate 32 0))=>TM (h.adds a) hx hk
 have hle:=fun w1 (a:Adds w w1)=>O9 (h.adds a) hx
 have hrt:=fun w1 (a:Adds w w1)=>KM (h.adds a) hx
 rw[←hS, ←hLX] at hso hle hrt;rw[←hLX] at h256;rw[←hS, ←hLX]
 have hmk:∀w:World,(Instr.makeSlice 29 (.int .i64 32) (.int .i64 32)).run Tryz.prog w=.ok (.slice (some ⟨w.heap.size,0,none⟩) 32 32) (w.alloc (.cells (madeCells #[.int .u8 0] 32) 5)):=fun w =>
  run_make_row' 29 5 (.int .u8 0) 1 Tryz.underlying29 (by kernel_rfl) rfl .i64 .i64 32 (by omega) (by omega) w
 obtain⟨MC,hMC⟩:∃MC,MC=madeCells #[Value.int .u8 0] 32:=⟨_,rfl⟩
 rw[←hMC] at hmk
 have hmz:∀w:World,Bytes (w.alloc (.cells MC 5)) (.slice (some ⟨w.heap.size,0,none⟩) 32 32) (List.replicate 32 0):=fun w=>by
  rw[hMC,show madeCells #[Value.int .u8 0] 32=AK (List.replicate 32 0) by kernel_rfl];exact Bytes.row (heap_alloc_new _ _) (by simp) (by unfold maxLen;omega)
 obtain⟨R1,hR1⟩:∃R1,R1=AK (tree 256 LX).dig:=⟨_,rfl⟩
 rw[←hR1] at hrt;have HRs:=(hIq (show R1.size=32 by rw[hR1,AN];exact Tr.B9 _) (aIq (show ∀v∈R1.toList,v.oneCell'=true by rw[hR1];exact Ae _) hR1))
 have heq:=fun w9=>FU 35 Tryz.underlying35 (tree 256 LX).dig (tree 256 LX).dig (Tr.B9 _) (Tr.B9 _) w9
 simp only[←hR1,decide_true] at heq;have HX:=(hIq hso (aIq hle (aIq hrt (aIq hmz heq))))
 have H256:=Lib.hid h256;unfold R0;rw[←hR1];clear hso hle hrt hMC hmz heq h hx hS hLX hR1 h256;go_enter Tryz.func35,Tryz.ntmps35;go_upto_region 1 with(first|fail|((with_reducible show zOq (.alloc 35));refine AI rfl 35 rfl (.agg (AK (List.replicate 32 0))) EJ ?_;dsimp only[Value.cells];try simp only[World.size_alloc]))
 refine BJ (fun w1 hw1=>?_);have a1:Adds w w1:=by rw[hw1];exact(Ch.refl _ _).alloc _
 have r5:w1.heap[w.heap.size]?=some (.cells (AK (List.replicate 32 0)) 35 (0,0)):=by rw[hw1];exact heap_alloc_new _ _
 obtain⟨B5,hB5⟩:∃b,b=w.heap.size:=⟨_,rfl⟩
 rw[←hB5] at r5 ⊢;have H1:=(hIq a1 (aIq r5 hB5))
 clear a1 r5 hw1 hB5;go_wp2_with fail;refine(HX.out.1 _ (H1.out.1.alloc _) _ (HX.out.2.2.2.1 _)).mono ?_;rintro e w4 ⟨a4,v4,out,rfl,ht,hol,hfi,htr⟩;have a14:Adds w1 w4:=((Ch.refl (fun _=>False) w1).alloc (.cells MC 5)).trans a4 (fun _=>fEq);obtain⟨ao,cap,rfl,hpa⟩:=Mw ht.row ht.good;have ht4:Store.Told (B5+1) w4 (.slice ao out.length cap) out:=Told.down ht (by have:=Ac H1.out.2.1;simp;omega);obtain⟨ol,hol'⟩:∃ol,ol=out.length:=⟨_,rfl⟩
 have H4:=(hIq (H1.out.1.trans a14 (fun _=>fEq)) (aIq a14 (aIq ht4 (aIq hpa (aIq hol (aIq hfi (aIq (htr H256.out) hol')))))))
 rw[←hol'];clear a4 a14 ht hpa ht4 hol hfi htr hol' hmk;go_wp2_with fail;refine(HX.out.2.1 _ H4.out.1).mono ?_;rintro e w5 ⟨rfl,a5⟩;obtain⟨nx,hnx⟩:∃nx,nx=LX.length:=⟨_,rfl⟩
 rw[←hnx];have hne:nx=ol:=by have h1:=H4.out.2.2.2.2.1;have h2:=H4.out.2.2.2.2.2.2.2;have h3:=H256.out;omega
 subst hne;have H5:=(hIq (H4.out.1.trans a5 (fun _=>fEq)) (aIq a5 hnx))
 clear a5 hnx;go_wp2_with fail;refine(HX.out.2.2.1 _ H5.out.1).mono ?_;rintro e w6 ⟨rfl,a6⟩;have A6:=Lib.hid a6;clear a6
 go_upto_region 4 with(first
  | fail
  | ((with_reducible show zOq (.alloc 35));refine AI rfl 35 rfl (.agg (AK (List.replicate 32 0))) EJ ?_;dsimp only[Value.cells];try simp only[World.size_alloc])
  | ((with_reducible show zOq (.store 35 _ _));refine AE rfl 35 _ _ rfl w6.heap.size 0 R1 rfl rfl (heap_alloc_new _ _) (by rw[Be,HRs.out.1]) (by rw[HRs.out.1];exact Nat.le_of_eq (Nat.zero_add _)) HRs.out.2.1 R1 (by rw[AJ _ _ (by rw[Array.length_toList,Array.length_toList,HRs.out.1];rfl)]) ?_))
 refine BJ (fun w7 hw7=>?_);have a7:Adds w5 w7:=by rw[hw7];exact(A6.out.alloc _).setRow (.inr A6.out.size) _
 have r7:w7.heap[w6.heap.size]?=some (.cells R1 35 (0,0)):=by rw[hw7];exact AF (heap_alloc_new w6 (.cells (AK (List.replicate 32 0)) 35)) R1
 obtain⟨B11,hB11⟩:∃b,b=w6.heap.size:=⟨_,rfl⟩
 rw[←hB11] at r7 ⊢;have a47:Adds w4 w7:=H5.out.2.1.trans a7 (fun _=>fEq);have hnr:=Law9.Eb (w:=w7) cap (BA.Af H4.out.2.2.2.1 a47 (fun _=>fEq));rw[←H4.out.2.2.2.2.2.2.2] at hnr;have H7:=(hIq a47 (aIq r7 (aIq hnr (show w4.heap.size≤B11 by rw[hB11];exact Nat.le_trans H5.out.2.1.size A6.out.size))))
 clear a7 r7 hw7 hnr a47 hB11;go_wp2_with fail;refine H7.out.2.2.1.mono ?_;rintro e w8 ⟨a8,Hb,c8,rfl,hl8,hf8,hd8⟩;obtain rfl:c8=0:=hf8.2 H4.out.2.2.2.2.2.1;have hHb:Hb=(tree 256 LX).dig:=by rw[hd8 H4.out.2.2.2.2.2.1,H4.out.2.2.2.2.2.2.1]
 subst hHb;rw[←HRs.out.2.2];have A8:=Lib.hid a8;clear a8 hf8 hd8 hl8
 go_upto_region 5 with(first
  | fail
  | ((with_reducible show zOq (.alloc 35));refine AI rfl 35 rfl (.agg (AK (List.replicate 32 0))) EJ ?_;dsimp only[Value.cells];try simp only[World.size_alloc])
  | ((with_reducible show zOq (.store 35 _ _));refine AE rfl 35 _ _ rfl w8.heap.size 0 R1 rfl rfl (heap_alloc_new _ _) (by rw[Be,HRs.out.1]) (by rw[HRs.out.1];exact Nat.le_of_eq (Nat.zero_add _)) HRs.out.2.1 R1 (by rw[AJ _ _ (by rw[Array.length_toList,Array.length_toList,HRs.out.1];rfl)]) ?_))
 refine BJ (fun w9 hw9=>?_);have a9:Adds w7 w9:=by rw[hw9];exact(A8.out.alloc _).setRow (.inr A8.out.size) _
 have r9:w9.heap[w8.heap.size]?=some (.cells R1 35 (0,0)):=by rw[hw9];exact AF (heap_alloc_new w8 (.cells (AK (List.replicate 32 0)) 35)) R1
 obtain⟨B13,hB13⟩:∃b,b=w8.heap.size:=⟨_,rfl⟩
 rw[←hB13] at r9 ⊢;have a49:Adds w4 w9:=H7.out.1.trans a9 (fun _=>fEq);have hs4:=H4.out.2.1.size;have hs1:=Ac H1.out.2.1;have hB4:w4.heap.size≤B13:=by rw[hB13];exact Nat.le_trans H7.out.1.size A8.out.size
 have hB7:=H7.out.2.2.2;have H9:=(hIq (a9.row H7.out.2.1 id) (aIq r9 (aIq ((H4.out.2.1.trans a49 (fun _=>fEq)).row H1.out.2.1 id) (aIq (show B11≠B5 by omega) (aIq (show B13≠B5 by omega) a49)))))
 have hee:((nx:Int) == (nx:Int))=true:=by simp
 clear a9 r9 hw9 hB13 a49 hs4 hs1 hB4 hB7;refine AO (fun w0=>w0.heap[B11]?=some (.cells R1 35 (0,0))∧w0.heap[B13]?=some (.cells R1 35 (0,0))) 29 [(0,false),(1,false),(2,false),(3,false),(4,false),(5,false),(6,false),(7,false),(8,false),(9,false),(10,false),(11,false),(12,false),(13,false),(14,false),(15,false),(16,false),(17,false),(18,false),(19,false),(20,false),(21,false),(22,false),(23,false),(24,false),(25,false),(26,false),(27,false),(28,true)] (by kernel_rfl) (by kernel_rfl) ?_ ?_
 · exact⟨AP H9.out.1,AP H9.out.2.1⟩
 refine plan_look rfl rfl (fun w0 hS=>(by clear hS;go_simp;try rfl)) ?_;simp only[Act.put,nAq,nBq,nCq];refine Law9.Aw (cur:=R1) (t:=35) (fr:=(0,0)) rfl rfl 35 _ rfl B11 0 32 rfl (fun w0 hS=>hS.1) Tryz.underlying35 rfl Be (by rw[HRs.out.1];exact Nat.le_refl _) R1 (by have:=HRs.out.1;simp[←this]) ?_;simp only[Act.put,nAq,nBq,nCq];refine plan_look rfl rfl (fun w0 hS=>(by clear hS;go_simp;try rfl)) ?_;simp only[Act.put,nAq,nBq,nCq]
 iterate 2
  refine plan_look (v:=.bool true) rfl rfl (fun w0 hS=>(by clear hS;go_simp;try rfl)) ?_;simp only[Act.put,nAq,nBq,nCq]
 refine plan_look rfl rfl (fun w0 hS=>(by clear hS;go_simp;try rfl)) ?_;simp only[Act.put,nAq,nBq,nCq]
 iterate 3
  refine plan_look (v:=.bool true) rfl rfl (fun w0 hS=>(by clear hS;go_simp;try rfl)) ?_;simp only[Act.put,nAq,nBq,nCq]
 refine plan_look rfl rfl (fun w0 hS=>(by clear hS;go_simp;try rfl)) ?_;simp only[Act.put,nAq,nBq,nCq]
 iterate 3
  refine plan_look (v:=.bool true) rfl rfl (fun w0 hS=>(by clear hS;go_simp;try rfl)) ?_;simp only[Act.put,nAq,nBq,nCq]
 refine plan_look rfl rfl (fun w0 hS=>(by clear hS;go_simp;try rfl)) ?_;simp only[Act.put,nAq,nBq,nCq]
 iterate 3
  refine plan_look (v:=.bool true) rfl rfl (fun w0 hS=>(by clear hS;go_simp;try rfl)) ?_;simp only[Act.put,nAq,nBq,nCq]
 iterate 3
  refine plan_look rfl rfl (fun w0 hS=>(by clear hS;go_simp;try rfl)) ?_;simp only[Act.put,nAq,nBq,nCq]
 iterate 3
  refine plan_look (v:=.bool true) rfl rfl (fun w0 hS=>(by clear hS;go_simp;try rfl)) ?_;simp only[Act.put,nAq,nBq,nCq]
 refine Law9.Aw (cur:=R1) (t:=35) (fr:=(0,0)) rfl rfl 35 _ rfl B11 0 32 rfl (fun w0 hS=>hS.1) Tryz.underlying35 rfl Be (by rw[HRs.out.1];exact Nat.le_refl _) R1 (by have:=HRs.out.1;simp[←this]) ?_;simp only[Act.put,nAq,nBq,nCq];refine Law9.Aw (cur:=R1) (t:=35) (fr:=(0,0)) rfl rfl 35 _ rfl B13 0 32 rfl (fun w0 hS=>hS.2) Tryz.underlying35 rfl Be (by rw[HRs.out.1];exact Nat.le_refl _) R1 (by have:=HRs.out.1;simp[←this]) ?_;simp only[Act.put,nAq,nBq,nCq];refine plan_look (v:=.bool true) rfl rfl (fun w0 hS=>(by have hq:=HX.out.2.2.2.2 w0;rw[run_eql_struct] at hq;clear hS;go_simp)) ?_;simp only[Act.put,nAq,nBq,nCq];refine plan_look (v:=.bool true) rfl rfl (fun w0 hS=>(by clear hS;go_simp;try rfl)) ?_;simp only[Act.put,nAq,nBq,nCq];refine plan_look rfl rfl (fun w0 hS=>(by clear hS;go_simp;try rfl)) ?_;simp only[Act.put,nAq,nBq,nCq];refine AV rfl ?_
 go_wp2_with (first
  | fail
  | ((with_reducible show zOq (.store 35 _ _));refine AE rfl 35 _ _ rfl B5 0 R1 rfl rfl (AP H9.out.2.2.1) (by rw[Be,HRs.out.1]) (by rw[HRs.out.1];exact Nat.le_of_eq (Nat.zero_add _)) HRs.out.2.1 R1 (by rw[AJ _ _ (by rw[Array.length_toList,Array.length_toList,HRs.out.1];rfl)]) ?_))
 refine⟨⟨row_setRow (AP H9.out.1) H9.out.2.2.2.1 _,row_setRow (AP H9.out.2.1) H9.out.2.2.2.2.1 _⟩,?_⟩;refine AZ ?_;simp only[List.drop_succ_cons,List.drop_zero];go_wp2;refine NoPanic.normal ?_;go_wp2;have hfin:Ch (fun k=>k=B5) w4 (w9.drew.setRow B5 R1):=(show Ch (fun k=>k=B5) w4 w9.drew from(H9.out.2.2.2.2.2.drew).mono (fun _ _ h=>h.elim)).setRow (.inl rfl) _;refine J5 (p:=5) (u:=4) (q:=6) rfl rfl (AF (AP H9.out.2.2.1) R1) Tryz.underlying35 rfl (by rw[Be,HRs.out.1]) rfl ⟨?_,.slice ao nx cap,out,rfl,?_,?_,H4.out.2.2.2.2.2.1,H4.out.2.2.2.2.2.2.1⟩
 · exact H4.out.1.trans hfin (fun k hk=>.inr (by rw[hk,H1.out.2.2];exact Nat.le_refl _))
 · have h9:=Told.down (b':=w.heap.size) (Told.stay H4.out.2.2.1 hfin (fun k hk=>by omega)) (by rw[H1.out.2.2];exact Nat.le_succ _)
   rw[←H4.out.2.2.2.2.2.2.2] at h9;exact h9
 rw[←H4.out.2.2.2.2.2.2.2];exact H5.out.2.2
end
def Zw (w:World) (key:List UInt8) (e:Ending) (w':World):Prop:=∃g cap,e=.returned (.slice (some ⟨g,0,none⟩) 32 cap)∧Bytes w' (.slice (some ⟨g,0,none⟩) 32 cap) key∧w.heap.size≤g∧g<w'.heap.size∧Adds w w'
theorem Nr (w:World) {key:List UInt8} (hk:key.length=32):Calls Tryz.prog 37 #[.agg (AK key)] w (Zw w key):=by
 obtain⟨K,hK⟩:∃K,K=AK key:=⟨_,rfl⟩
 have hks:K.size=32:=by rw[hK,AN,hk]
 have hk1:∀v∈K.toList,v.oneCell'=true:=by rw[hK];exact Ae _
 have HK:=(hIq hks (aIq hk1 hK))
 obtain⟨i0,hi,hz0,hz1,hz2⟩:=Ug;have HI:=(hIq hi (aIq hz0 (aIq hz1 hz2)))
 rw[←hK];clear hks hk1 hK hi hz0 hz1 hz2;go_enter Tryz.func37,Tryz.ntmps37;go_upto_region 1 with fail;refine BJ (fun w1 hw1=>?_);have a1:Adds w w1:=by rw[hw1];exact(Ch.refl _ _).alloc _
 have r1:w1.heap[w.heap.size]?=some (.cells K 47 (0,0)):=by rw[hw1];exact heap_alloc_new _ _
 have A1:=(hIq a1 r1)
 clear a1 hw1;clear r1
 go_wp2_with (first
  | fail
  | (at_builtin;refine Ak rfl _ _ 29 rfl 5 i0 (.int .u8 0) 1 1 Tryz.underlying29 HI.out.1 HI.out.2.1 HI.out.2.2.1 HI.out.2.2.2 rfl (by decide) (.slice (some ⟨w1.heap.size,0,none⟩) 0 0) 0 [] rfl (⟨rfl,.inr ⟨w1.heap.size,0, #[],rfl,Nat.zero_le _,heap_alloc_new _ _,Nat.le_refl _,Nat.zero_le _,rfl,rfl⟩⟩) ⟨w.heap.size,0,none⟩ 32 32 K.toList rfl (by rw[Array.length_toList,HK.out.1]) (Cc (AM A1.out.2 _)) HK.out.2.1 (by unfold maxLen;omega) (by omega) ?_;intro v' w4 own' grow' loc'))
 rw[Nat.zero_add,List.nil_append] at own';obtain⟨gg,cp,cur,rfl,hg,q1,q2,q3,q4⟩:=Cs own' (by decide);have hA4:Adds w w4:=(A1.out.1.alloc _).grown grow' (fun j hj=>by cases hj;exact .inr A1.out.1.size)
 have hge:w.heap.size≤gg:=by
  have h1:=A1.out.1.size;rcases loc' with e|e
  · injection e with e
    have e:gg=w1.heap.size:=e;omega
  have:=e gg rfl;simp at this;omega
 have H4:=(hIq hg (aIq q1 (aIq q2 (aIq q4 (aIq hA4 hge)))))
 clear hg q1 q2 q3 q4 hA4 hge own' grow' loc';go_wp2;go_ret;refine⟨gg,cp,rfl,⟨_,cp,by rw[hk],by rw[hk];exact H4.out.2.1,H4.out.2.2.1,fun j y hy=>⟨gg,0,rfl,?_⟩⟩,H4.out.2.2.2.2.2,Ac H4.out.1,H4.out.2.2.2.2.1⟩;rw[Nat.zero_add];exact AH H4.out.1 (Dk H4.out.2.2.2.1 (by rw[HK.out.2.2,show(AK key).toList=key.map bv by simp[AK],List.getElem?_map,hy];rfl))
end Go.Proofs.YtngbdbpofifimaaGreat.Law15
