/- Laws of the layers below. -/
import Derived.Test.YtngbdbpofifimaaGreatQm23
set_option maxHeartbeats 3200000
set_option maxRecDepth 100000
set_option linter.unusedVariables false
namespace Go.Proofs.YtngbdbpofifimaaGreat.Store
open Go.RowKit Go.Sort Go.Proofs.YtngbdbpofifimaaGreat.ShaW Go.Proofs.YtngbdbpofifimaaGreat.Path Go.Proofs.YtngbdbpofifimaaGreat.Bk
def Tr.some (t:Tr) (key:List UInt8) (most:Int):Av:=if most<0 then t.from key else (t.from key).take most.toNat
def KW (key:List UInt8) (ps:List (Int×Tr)):Av:=ps.flatMap fun p=>p.2.from key
def steps (ps:List (Int×Tr)):Nat:=(ps.map fun p=>2*p.2.nodes+1).sum
theorem EY (p:Int×Tr) (ps:List (Int×Tr)):steps (p::ps)=2*p.2.nodes+1+steps ps:=rfl
def Deep (f:View):List (Int×Tr)→Prop
 | []=>True
 | p::rest=>(∃d,rest.length≤d∧d≤256∧Rep f p.1 d p.2)∧Deep f rest
theorem Deep.small {f:View}:∀ {ps:List (Int×Tr)},Deep f ps→ps.length≤257
 | [],_=>by simp
 | p::rest,⟨⟨d,h1,h2,_⟩,_⟩=>by rw[List.length_cons];omega
def R9 (out:List Pr):Prop:=out.Pairwise fun x y=>∀k,x.vv.ownBlock=some k→y.vv.ownBlock≠some k
structure Told (base:Nat) (w:World) (v:Value) (out:List Pr):Prop where
 row:RowP w base v out
 vals:∀x∈out,x.key.length=32∧Bytes w x.vv x.val∧∀k,x.vv.ownBlock=some k→base≤k∧k<w.heap.size∧v.ownBlock≠some k
 apart:R9 out
 whole:∀x∈out,BA w 0 x.vv x.val
theorem Told.adds {base:Nat} {w w':World} {v:Value} {out:List Pr} (h:Told base w v out) (a:AN w w'):Told base w' v out :=
 ⟨h.row.adds a,fun x hx=>by obtain⟨p,q,r⟩:=h.vals x hx;exact⟨p,q.Ae a (fun _ _ h=>h),fun k hk=>⟨(r k hk).1,Nat.lt_of_lt_of_le (r k hk).2.1 a.size,(r k hk).2.2⟩⟩,h.apart,fun x hx=>(h.whole x hx).Ae a (fun _ _ h=>h)⟩
theorem Told.good {base:Nat} {w:World} {v:Value} {out:List Pr} (h:Told base w v out):∀x∈out,x.Good w:=fun x hx=>by
 obtain⟨p,q,r⟩:=h.vals x hx;exact⟨p,q,fun _ k hk=>(r k hk).2.1⟩
structure Dm (base:Nat) (wb wr:World) (v9 v10:Value) (out:List Pr) (st:List Int):Prop where
 told:Told base wr v9 out
 pile:wr.ownsRow base 3 1 v10 st.length (il st.reverse)
 one:∀k,v10.ownBlock=some k→v9.ownBlock≠some k∧∀x∈out,x.vv.ownBlock≠some k
 world:AN wb wr
section
variable {base : Nat} {wb wr w' : World} {v9 v10 v' : Value} {out : List Pr} {st st' : List Int}
theorem Dm.adds (h:Dm base wb wr v9 v10 out st) (a:AN wr w'):Dm base wb w' v9 v10 out st :=
 ⟨h.told.adds a,a.owns h.pile (fun _ _ h=>h),h.one,h.world.trans a (fun _=>fEq)⟩
theorem Dm.push (h:Dm base wb wr v9 v10 out st) (hb:wb.heap.size≤base) {o:Obj} (ho:w'.ownsRow base 3 1 v' st'.length (il st'.reverse)) (hg:(wr.alloc o).grownBy w' v10.ownBlock)
 (hl:v'.ownBlock=v10.ownBlock∨v'.ownBlock=some (wr.alloc o).heap.size):Dm base wb w' v9 v' out st':=by
 have hc:Ch (fun k=>v10.ownBlock=some k) wr w':=((Ch.refl _ _).alloc o).grown hg (fun k hk=>.inl hk);have hlt9:∀k,v9.ownBlock=some k→k<wr.heap.size:=fun k hk=>(h.told.row.lt k hk).2
 refine⟨⟨hc.owns h.told.row (fun k hk e=>(h.one k e).1 hk),fun x hx=>?_,h.told.apart,fun x hx=>(h.told.whole x hx).Ae hc (fun k hk e=>(h.one k e).2 x hx hk)⟩,ho,fun k hk=>?_,(h.world.alloc o).grown hg (fun k hk=>.inr (Nat.le_trans hb (h.pile.lt k hk).1))⟩
 · obtain⟨p,q,r⟩:=h.told.vals x hx
   exact⟨p,q.Ae hc (fun k hk e=>(h.one k e).2 x hx hk),fun k hk=>⟨(r k hk).1,Nat.lt_of_lt_of_le (r k hk).2.1 hc.size,(r k hk).2.2⟩⟩
 rcases hl with e|e
 · rw[e] at hk
   exact h.one k hk
 rw[e] at hk;cases hk;refine⟨fun e9=>?_,fun x hx ex=>?_⟩
 · have:=hlt9 _ e9
   simp at this;omega
 have:=((h.told.vals x hx).2.2 _ ex).2.1;simp at this;omega
theorem Dm.tell {w2:World} {x:Pr} (h:Dm base wb wr v9 v10 out st) (hb:wb.heap.size≤base) (hbr:base≤wr.heap.size) (a:AN wr w2) (hx:x.key.length=32) (hbw:BA w2 0 x.vv x.val) (hn:∀k,x.vv.ownBlock=some k→wr.heap.size≤k∧k<w2.heap.size) {o:Obj}
 (ho:w'.ownsRow 0 86 33 v' (out.length+1) (BZ out++x.cells.toList)) (hg:(w2.alloc o).grownBy w' v9.ownBlock) (hl:v'.ownBlock=v9.ownBlock∨∀k,v'.ownBlock=some k→(w2.alloc o).heap.size≤k):Dm base wb w' v' v10 (out ++ [x]) st:=by
 have h2:=h.adds a;have hbx:=hbw.bytes;have hc:Ch (fun k=>v9.ownBlock=some k) w2 w':=((Ch.refl _ _).alloc o).grown hg (fun k hk=>.inl hk)
 have hbase:∀k,v'.ownBlock=some k→base≤k:=fun k hk=>by
  rcases hl with e|e
  · rw[e] at hk;exact(h.told.row.lt k hk).1
  have:=e k hk;have:=a.size;simp at *;omega
 have hrow:RowP w' base v' (out ++ [x]):=by
  have hfl:BZ (out ++ [x])=BZ out++x.cells.toList:=by rw[Hq];simp[BZ]
  unfold RowP;rw[hfl,List.length_append,List.length_singleton];exact ho.base hbase
 have h9old:∀k,v9.ownBlock=some k→k<wr.heap.size:=fun k hk=>(h.told.row.lt k hk).2
 have hv':∀k,v'.ownBlock=some k→(v9.ownBlock=some k)∨w2.heap.size<k+1:=fun k hk=>by
  rcases hl with e|e
  · exact .inl (by rw[←e];exact hk)
  have:=e k hk;simp at this;exact .inr (by omega)
 refine⟨⟨hrow,fun y hy=>?_,?_,fun y hy=>?_⟩,hc.owns h2.pile (fun k hk e=>(h.one k hk).1 e),fun k hk=>?_,(h2.world.alloc o).grown hg (fun k hk=>.inr (Nat.le_trans hb (h.told.row.lt k hk).1))⟩
 · rcases List.mem_append.1 hy with hy|hy
   · obtain⟨p,q,r⟩:=h2.told.vals y hy
     refine⟨p,q.Ae hc (fun k hk e=>(r k hk).2.2 e),fun k hk=>⟨(r k hk).1,Nat.lt_of_lt_of_le (r k hk).2.1 hc.size,fun e=>?_⟩⟩;rcases hv' k e with e|e
     · exact(r k hk).2.2 e
     have:=(r k hk).2.1;omega
   obtain rfl:=List.mem_singleton.1 hy;refine⟨hx,hbx.Ae hc (fun k hk e=>?_),fun k hk=>⟨Nat.le_trans hbr (hn k hk).1,Nat.lt_of_lt_of_le (hn k hk).2 hc.size,fun e=>?_⟩⟩
   · have:=h9old k e;have:=(hn k hk).1;omega
   rcases hv' k e with e|e
   · have:=h9old k e;have:=(hn k hk).1;omega
   have:=(hn k hk).2;omega
 · unfold R9
   rw[List.pairwise_append];refine⟨h.told.apart,List.pairwise_singleton _ _,fun a ha b hb k hk e=>?_⟩;obtain rfl:=List.mem_singleton.1 hb;have:=((h.told.vals a ha).2.2 k hk).2.1;have:=(hn k e).1;omega
 · rcases List.mem_append.1 hy with hy|hy
   · exact(h2.told.whole y hy).Ae hc (fun k hk e=>((h2.told.vals y hy).2.2 k hk).2.2 e)
   obtain rfl:=List.mem_singleton.1 hy;exact hbw.Ae hc (fun k hk e=>by have:=h9old k e;have:=(hn k hk).1;omega)
 have hk10:=(h.pile.lt k hk).2;refine⟨fun e=>?_,fun y hy e=>?_⟩
 · rcases hv' k e with e|e
   · exact(h.one k hk).1 e
   have:=a.size;omega
 rcases List.mem_append.1 hy with hy|hy
 · exact(h.one k hk).2 y hy e
 obtain rfl:=List.mem_singleton.1 hy;have:=(hn k e).1;omega
end
theorem Gy (T:Array Value) (ao:Option Addr) (n c:Nat) (hT:T.size=32):Tryz.prog.built 86 [(0,.agg T),(1,.slice ao n c)]=some (T++#[.slice ao n c]):=by
 obtain⟨i,h1,h2,h3,h4⟩:=info_parts (P:=Tryz.prog) (e:=86) (z:=.agg (List.replicate 32 (Value.int .u8 0) ++ [Value.slice none 0 0]).toArray) (size:=33) (bytes:=56) (by kernel_rfl);exact J4 h1 h2 Tryz.underlying86 (by kernel_rfl) (by rfl) (.agg T) (.slice ao n c) hT rfl
theorem PY {w:World} {s:Nat} {F:Nat→Prop} {σ:AG Nd} (h:At w s F σ) (G:Good σ) {root:Int} {t:Tr} (hr:Rep (sk σ) root 0 t) (key:List UInt8) (hk:key.length=32) (most:Int) :
 Calls Tryz.prog 86 #[.pointer (some ⟨s,0,none⟩),.int .i64 root,.agg (AS key),.int .i64 most] w fun e w'=>∃v out,e=.returned v∧Told w.heap.size w' v out∧out.map Pr.ent=t.some key most∧AN w w':=by
 obtain⟨K,hK⟩:∃K,K=AS key:=⟨_,rfl⟩
 have hKs:K.size=32:=by rw[hK,AU,hk]
 rw[←hK]
 have hlen:(t.from key).length≤65536:=by
  have:=Iw t key;have:=(Bm h G hr).2;omega
 obtain⟨Z,hZ⟩:∃Z,Z=AS (List.replicate 32 0):=⟨_,rfl⟩
 have hzp:=Ft;rw[←hZ] at hzp;have hZs:Z.size=32:=by rw[hZ];rfl
 obtain⟨wb,hwb⟩:∃wb,wb=w.alloc (.cells K 47):=⟨_,rfl⟩
 have hab:AN w wb:=by rw[hwb];exact(Ch.refl _ _).alloc _
 have hrb:wb.heap[w.heap.size]?=some (.cells K 47 (0,0)):=by rw[hwb];exact heap_alloc_new _ _
 obtain⟨b0,hb0⟩:∃b0,b0=w.heap.size:=⟨_,rfl⟩
 rw[←hb0] at hrb;obtain⟨base,hbase⟩:∃base,base=wb.heap.size:=⟨_,rfl⟩
 obtain⟨i1,hi,hz0,hz1,hz2⟩:=SlabN.DZ;obtain⟨i0,z0,p1,p2,p3,p4,p5⟩:=LB;have HI:=(hIq p1 (aIq p2 (aIq p3 (aIq p4 p5))))
 have HJ:=(hIq hi (aIq hz0 (aIq hz1 hz2)))
 have HAT:=Lib.hid (h.adds hab);have HG:=Lib.hid G;have HR:=(hIq hr hlen)
 have HK:=(hIq hK (aIq hKs hk))
 have HWB:=(hIq hwb hb0)
 have hsz0:wb.heap.size=b0+1:=by rw[hwb,hb0];simp
 have HB:=(hIq hab (aIq hrb (aIq hbase (aIq (show w.heap.size≤base by rw[hbase];exact hab.size) hsz0))))
 clear hsz0;have HZ:=(hIq hzp hZs)
 clear h G hr hK hKs hk hwb hab hrb hzp hZs hZ hlen hi hz0 hz1 hz2 p1 p2 p3 p4 p5 hbase;go_enter Tryz.func86,Tryz.ntmps86;go_wp2;rw[←HWB.out.1];rw[←HWB.out.2];clear hb0;go_loopg [9,10] (steps [(root,t)]) (fun g s9 s10 wr=>∃(ps:List (Int×Tr)) (out:List Pr),Deep (sk σ) ps∧g=steps ps∧out.map Pr.ent++KW key ps=t.from key∧(0≤most→(out.length:Int)≤most)∧Dm base wb wr s9 s10 out (ps.map (·.1)))
 case atStart =>
  refine⟨[(root,t)],[],⟨⟨0,Nat.le_refl _,by omega,HR.out.1⟩,trivial⟩,rfl,by simp[KW],fun h=>h,?_⟩;refine⟨⟨RowP.nil _ _,fun x hx=>(by cases hx),List.Pairwise.nil,fun x hx=>(by cases hx)⟩,?_,fun k hk=>⟨fun e=>(by cases e),fun x hx=>(by cases hx)⟩,(Ch.refl _ _).alloc _⟩;have hnew:=heap_alloc_new wb (.cells #[.int .i64 root] 3);rw[HB.out.2.2.2.2] at hnew;exact(B4 hnew (by decide) (by decide) rfl rfl).base (fun k hk=>by simp[Value.ownBlock] at hk;have:=HB.out.2.2.1;have:=HB.out.2.2.2.2;omega)
 obtain⟨ps,out,hdp,rfl,hfr,hmo,hst⟩:=hrel;obtain⟨o9,c9,rfl⟩:=hst.told.row.form;have hps:=hdp.small
 have hol:out.length≤65536:=by
  have h1:=congrArg List.length hfr;rw[List.length_append,List.length_map] at h1;have:=HR.out.2;omega
 have fin:(ps = []∨(0≤most∧(out.length:Int)=most))→Told w.heap.size wr (.slice o9 out.length c9) out∧out.map Pr.ent=t.some key most∧AN w wr:=fun hend=>by
  refine⟨⟨(show RowP _ _ _ _ from hst.told.row).base (fun k hk=>Nat.le_trans HB.out.2.2.2.1 (hst.told.row.lt k hk).1),fun x hx=>?_,hst.told.apart,hst.told.whole⟩,?_,HB.out.1.trans hst.world (fun _=>fEq)⟩
  · obtain⟨p,q,r⟩:=hst.told.vals x hx
    exact⟨p,q,fun k hk=>⟨Nat.le_trans HB.out.2.2.2.1 (r k hk).1,(r k hk).2⟩⟩
  unfold Tr.some;rcases hend with rfl|⟨h1,h2⟩
  · have hfr':out.map Pr.ent=t.from key:=by simpa[KW] using hfr
    split
    · exact hfr'
    rw[←hfr',List.take_of_length_le];rw[List.length_map];have:=hmo (by omega);omega
  rw[if_neg (by omega), ←hfr,List.take_append_of_le_length (by rw[List.length_map];omega),List.take_of_length_le (by rw[List.length_map];omega)]
 have FIN:=Lib.hid fin;cases ps with
 | nil =>
  obtain⟨a10,c10,rfl⟩:=Am hst.pile;have F0:=Lib.hid (fin (.inl rfl));clear fin hdp hfr hmo hst hps FIN;simp only[List.map_nil,List.length_nil];go_wp2;go_ret
  first
   | exact⟨_,out,rfl,F0.out⟩
   | exact⟨_,rfl,out,F0.out⟩
 | cons p rest =>
  obtain⟨h',t'⟩:=p;obtain⟨g,cap,cur,e10,hg1,hg2,hg3,hg4,hg5⟩:=Bq hst.pile (by simp);subst e10;by_cases hstop:0≤most∧(out.length:Int)=most
  · obtain⟨hm0,hme⟩:=hstop
    have f1:decide (most<0)=false:=decide_eq_false (by omega);have f2:decide ((out.length:Int)<most)=false:=decide_eq_false (by omega);have hl0:(0:Int)<((rest.length+1:Nat):Int):=by omega
    have hlst:(List.map (fun x:Int×Tr=>x.1) ((h',t')::rest)).length=rest.length+1:=by simp
    rw[hlst];have F0:=Lib.hid (fin (.inr ⟨hm0,hme⟩));clear fin hdp hfr hmo hst hg1 hg2 hg3 hg4 hg5 hm0 hme hlst hps FIN;go_wp2;go_ret
    first
     | exact⟨_,out,rfl,F0.out⟩
     | exact⟨_,rfl,out,F0.out⟩
  have hgo:most<0∨(out.length:Int)<most:=by
   by_cases h0:most<0
   · exact .inl h0
   right;have:=hmo (by omega);have:¬(out.length:Int)=most:=fun e=>hstop ⟨by omega,e⟩
   omega
  have hcell:wr.cell? ⟨g,rest.length,none⟩=some (.int .i64 h'):=AH hg1 (Dx hg5 (by simp[il]))
  have hst':Dm base wb wr (.slice o9 out.length c9) (.slice (some ⟨g,0,none⟩) rest.length cap) out (rest.map (·.1)):=by
   refine⟨hst.told,?_,hst.one,hst.world⟩;rw[List.length_map];refine(B4 (n:=rest.length) hg1 (by simp at hg2 ⊢;omega) hg3 hg4 ?_).base (fun k hk=>?_)
   · have:=congrArg (List.take (rest.length*1)) hg5
     rw[List.take_take,Nat.min_eq_left (by simp)] at this;rw[this];simp[il]
   cases hk;exact(hst.pile.lt g rfl).1
  obtain⟨⟨d',hd1,hd2,hd0⟩,hdr⟩:=hdp;have hd':Rep (sk σ) h' d' t':=hd0;clear hd0;have hAt:=HAT.out.adds hst.world;have hrow:=hst.world.row HB.out.2.1 id;have hkd:=IQ hAt h';have hky:=fun w1 (a:AN wr w1)=>I3 (hAt.adds a) h'
  have hva:=fun w1 (a:AN wr w1)=>QL (hAt.adds a) h'
  have hdpt:=fun w1 (a:AN wr w1)=>Kg (hAt.adds a) h'
  have hsd:=fun w1 (a:AN wr w1)=>GU (hAt.adds a) h'
  have hfr2:out.map Pr.ent++(t'.from key++KW key rest)=t.from key:=hfr;have hwk:IntKind.i64.wrap (rest.length:Int)=rest.length:=IntWalk.i64_in _ (by simp at hps;omega);have hln:(List.map (fun x:Int×Tr=>x.1) ((h',t')::rest)).length=rest.length+1:=by simp
  rw[hln] at hg2 ⊢;have hrl:rest.length≤257:=by simp at hps;omega
  obtain⟨m,hm⟩:∃m,m=rest.length:=⟨_,rfl⟩
  rw[←hm] at hcell hwk hrl hg2 hst' ⊢;have hl0:(0:Int)<((m+1:Nat):Int):=by omega
  have hrl':(m:Int)≤257:=by omega
  have HM:=Lib.hid hm;have HS:=Lib.hid hst';have HROW:=Lib.hid hrow;have HD:=(hIq hdr (aIq hd1 (aIq hd2 hd')))
  have HFR:=Lib.hid hfr2;have HGO:=(hIq hgo (aIq hmo hol))
  clear fin hfr hmo hst hstop hg1 hg3 hg4 hg5 hst' hd1 hd2 hdr hAt hrow hfr2 hln hm hps FIN;go_upto_region 3 with fail;go_cut [31] (fun s31 wx=>s31=.bool true∧wx=wr)
  case first =>
   by_cases h0:most<0
   · have f1:decide (most<0)=true:=decide_eq_true h0
     clear h0;go_wp2;go_meet;exact⟨rfl,rfl⟩
   have f1:decide (most<0)=false:=decide_eq_false h0;have f2:decide ((out.length:Int)<most)=true:=decide_eq_true (by rcases HGO.out.1 with h|h;exact absurd h h0;exact h);clear h0;go_wp2;go_meet;exact⟨rfl,rfl⟩
  obtain⟨rfl,hwc⟩:=hcut;subst hwc;by_cases hx0:h'=0
  · subst hx0
    have ht0:=hd'.D1 HG.out.fit.zero;rw[show(nd σ 0).kind=0 from rfl] at hkd;have HKD:=Lib.hid hkd;have HT0:=Lib.hid ht0;clear hkd hky hva hdpt hsd hd' ht0;go_wp2_with fail;refine HKD.out.mono ?_;rintro e w1 ⟨rfl,a1⟩;have S1:=Lib.hid (HS.out.adds a1);clear a1 hcell;go_wp2_with fail;go_roundg (steps rest)
    case measure=>rw[EY];omega
    exact⟨rest,out,HD.out.1,rfl,by have:=HFR.out;rw[HT0.out] at this;exact this,HGO.out.2.1,S1.out⟩
  obtain⟨x,hx⟩:=hd'.live.resolve_left hx0;have hkl:x.key.length=32:=(HG.out.fit.all _ _ hx).key;obtain⟨q1,q2,q3,q4,q5,q6,q7⟩:=Hd hx;rw[q2] at hkd;rw[q6] at hky;rw[q7] at hva;obtain⟨T,hT⟩:∃T,T=AS x.key:=⟨_,rfl⟩
  have hTs:T.size=32:=by rw[hT,AU,hkl]
  have hT1:∀v∈T.toList,v.oneCell'=true:=by rw[hT];exact BO _
  have hcm:=IV x.key key hkl HK.out.2.2;rw[←hT, ←HK.out.1] at hcm;rw[←hT] at hky;have HT:=(hIq hT (aIq hTs (aIq hT1 hkl)))
  have HKY:=Lib.hid hky;have HCM:=Lib.hid hcm;obtain⟨cv,hcv⟩:∃cv,cv=Lib.compareBytes x.key key:=⟨_,rfl⟩
  rw[←hcv] at HCM;clear hT hTs hT1 hky hcm hx0;by_cases hk2:x.kind=2
  · rw[hk2] at hkd
    have HKD:=Lib.hid hkd
    obtain⟨l,r,hdx,hl,hr,ht'⟩:∃l r,x.depth=(d':Nat)∧Rep (sk σ) x.left (d'+1) l∧Rep (sk σ) x.right (d'+1) r∧t'=.node l r:=by
     cases hd' with
     | nil=>rw[HG.out.fit.zero] at hx;cases hx
     | leaf hn' h1=>rw[hx] at hn';cases hn';omega
     | node hn' _ h2 hl hr=>rw[hx] at hn';cases hn';exact⟨_,_,h2,hl,hr,rfl⟩
    subst ht';have hd1:=(HG.out.fit.inner hx hk2).d1;have hd255:d'≤255:=by omega
    rw[show depth σ h'=(d':Int) by unfold depth;rw[q1,if_pos rfl,q3,hdx]] at hdpt;obtain⟨nl,hnl⟩:∃nl,nl=x.left:=⟨_,rfl⟩
    obtain⟨nr,hnr⟩:∃nr,nr=x.right:=⟨_,rfl⟩
    rw[q4,q5, ←hnl, ←hnr] at hsd;rw[←hnl] at hl;rw[←hnr] at hr;have hla:=Path.UR x.key hkl (d':Int) (by omega);have hll:(last x.key (d':Int)).length=32:=by rw[DP,hkl]
    have hcl:=IV (last x.key (d':Int)) key hll HK.out.2.2
    have hdrop:Lib.compareBytes (last x.key (d':Int)) key<0→(Tr.node l r).from key = []:=fun hlt=>by
     refine Qd fun e he=>?_
     obtain⟨e1,e2,_⟩:=hd'.Ah HG.out.fit;have hp:=(e2 x hx e he).1 hk2;have hge:=Us (by rw[(e1 e he).1,hkl]) hp;by_cases h:Lib.compareBytes e.1 key<0
     · exact h
     exact absurd hlt (IF _ _ _ hge h)
    obtain⟨U,hU⟩:∃U,U=AS (last x.key (d':Int)):=⟨_,rfl⟩
    have hUs:U.size=32:=by rw[hU,AU,hll]
    have hU1:∀v∈U.toList,v.oneCell'=true:=by rw[hU];exact BO _
    rw[←HT.out.1, ←hU] at hla;rw[←hU, ←HK.out.1] at hcl;obtain⟨cl,hcl2⟩:∃cl,cl=Lib.compareBytes (last x.key (d':Int)) key:=⟨_,rfl⟩
    rw[←hcl2] at hcl hdrop;have HDP:=Lib.hid hdpt;have HLA:=Lib.hid hla;have HCL:=Lib.hid hcl;have HDR:=Lib.hid hdrop;have HU:=(hIq hUs hU1)
    have HSD:=Lib.hid hsd;have HLR:=(hIq hl hr)
    clear hdpt hkd hla hcl hcl2 hdrop hU hUs hU1 hsd hl hr hnl hnr hll hx q1 q2 q3 q4 q5 q6 q7 hva hcv hd' hd1 hdx hk2;go_wp2_with fail;refine HKD.out.mono ?_;rintro e w1 ⟨rfl,a1⟩;have A1:=Lib.hid a1;clear a1 hcell;go_wp2_with fail;refine(HKY.out _ A1.out).mono ?_;rintro e w2 ⟨rfl,a2⟩;have A2:=Lib.hid (A1.out.trans a2 (fun _=>fEq));clear a2 A1;go_wp2_with fail;refine(HDP.out _ A2.out).mono ?_;rintro e w3 ⟨rfl,a3⟩;have A3:=Lib.hid (A2.out.trans a3 (fun _=>fEq));clear a3 A2;go_wp2_with fail;refine(HLA.out _).mono ?_;rintro e w4 ⟨rfl,a4⟩;have A4:=Lib.hid (A3.out.trans a4 (fun _=>fEq));clear a4 A3;obtain⟨w5,hw5⟩:∃w5,w5=(w4.alloc (.cells Z 47)).setRow w4.heap.size U:=⟨_,rfl⟩
    have r5:w5.heap[w4.heap.size]?=some (.cells U 47 (0,0)):=by rw[hw5];exact AK (heap_alloc_new _ _) _
    have a5:AN wc w5:=by rw[hw5];exact(A4.out.alloc _).setRow (.inr A4.out.size) _
    have k5:=a5.row HROW.out id;have R5:=(hIq r5 (aIq a5 k5))
    have HW5:=Lib.hid hw5;clear hw5 r5 a5 k5
    go_upto_region 13 with(first
     | fail
     | ((with_reducible show zOq (.alloc 47));refine AO rfl 47 rfl (.agg Z) HZ.out.1 ?_;dsimp only[Value.cells];try simp only[World.size_alloc])
     | ((with_reducible show zOq (.store 47 _ _));refine AI rfl 47 _ _ rfl w4.heap.size 0 U rfl rfl (heap_alloc_new _ _) (by rw[Ab,HU.out.1]) (by rw[HU.out.1,HZ.out.2];omega) HU.out.2 U (by rw[AT _ _ (by rw[Array.length_toList,Array.length_toList,HU.out.1,HZ.out.2])]) ?_))
    rw[←HW5.out]
    go_wp2_with (first
     | fail
     | ((with_reducible show zOq (.load 47 _));refine AJ rfl 47 _ rfl w4.heap.size 0 rfl R5.out.1 Tryz.underlying47 rfl Ab (by rw[HU.out.1];omega) U (by have:=HU.out.1;simp[←this]) ?_)
     | ((with_reducible show zOq (.load 47 _));refine AJ rfl 47 _ rfl b0 0 rfl R5.out.2.2 Tryz.underlying47 rfl Ab (by rw[HK.out.2.1];omega) K (by have:=HK.out.2.1;simp[←this]) ?_))
    refine(HCL.out _).mono ?_;rintro e w6 ⟨rfl,a6⟩;have A6:=Lib.hid (R5.out.2.1.trans a6 (fun _=>fEq));clear a6;by_cases hcl0:cl<0
    · have f3:decide (0≤cl)=false:=decide_eq_false (by omega)
      have hdr:=HDR.out hcl0;have HDR2:=Lib.hid hdr;have S6:=Lib.hid (HS.out.adds A6.out);clear hdr hcl0;go_wp2_with fail;go_roundg (steps rest)
      case measure=>rw[EY];omega
      exact⟨rest,out,HD.out.1,rfl,by have:=HFR.out;rw[HDR2.out] at this;exact this,HGO.out.2.1,S6.out⟩
    have f3:decide (0≤cl)=true:=decide_eq_true (by omega);clear hcl0;go_wp2_with fail;refine(HSD.out _ A6.out).mono ?_;rintro e w7 ⟨rfl,a7⟩;have S7:=Lib.hid (HS.out.adds (A6.out.trans a7 (fun _=>fEq)));have hw7:=S7.out.world.size;have hpl:=S7.out.pile
    have hpl2:w7.ownsRow base 3 1 (.slice (some ⟨g,0,none⟩) m cap) m (il (rest.map (·.1)).reverse):=by
     rw[List.length_map, ←HM.out] at hpl;exact hpl
    have HPL:=Lib.hid hpl2;have HW7:=Lib.hid hw7;clear a7 hw7 hpl hpl2
    go_wp2_with (first
     | (at_builtin;refine wpList_append_own_at _ rfl _ _ 61 rfl base 3 i1 (.int .i64 0) 1 8 Tryz.underlying61 HJ.out.1 HJ.out.2.1 HJ.out.2.2.1 HJ.out.2.2.2 rfl (by decide) _ _ _ rfl (HPL.out.alloc _) ⟨w7.heap.size,0,none⟩ 2 2 [.int .i64 nr,.int .i64 nl] rfl rfl (GI (heap_alloc_new w7 (.cells #[.int .i64 nr,.int .i64 nl] 3))) (by simp[Value.oneCell']) (by unfold maxLen;omega) (by omega) (by have:=HW7.out;have:=HB.out.2.2.1;simp;omega) ?_;intro v' w8 hown8 hgrow8 hnil8 hloc8))
    have hS8:Dm base wb w8 (.slice o9 out.length c9) v' out (((nl,l)::(nr,r)::rest).map (·.1)):=by
     refine S7.out.push (by have:=HB.out.2.2.1;omega) ?_ hgrow8 hloc8;have e:(((nl,l)::(nr,r)::rest).map (fun x:Int×Tr=>x.1)).length=m+2:=by rw[List.length_map,HM.out];rfl
     rw[e];simpa[il] using hown8
    have S8:=Lib.hid hS8;clear hown8 hgrow8 hnil8 hloc8 hS8;go_roundg (steps ((nl,l)::(nr,r)::rest))
    case measure=>simp only[EY,Tr.nodes];omega
    have hh:=HD.out.2.1;have hh2:=HD.out.2.2.1;refine⟨(nl,l)::(nr,r)::rest,out,⟨⟨d'+1,by rw[List.length_cons];omega,by omega,HLR.out.1⟩,⟨⟨d'+1,by omega,by omega,HLR.out.2⟩,HD.out.1⟩⟩,rfl,?_,HGO.out.2.1,S8.out⟩;have:=HFR.out;rw[Tr.Q7] at this;simpa[KW] using this
  have hk1:=(HG.out.fit.leaf hx hk2).1;rw[hk1] at hkd;have HKD:=Lib.hid hkd
  have hul:t'=.leaf x.key x.value:=by
   cases hd' with
   | nil=>rw[HG.out.fit.zero] at hx;cases hx
   | leaf hn' h1=>rw[hx] at hn';cases hn';rfl
   | node hn' h1 _ _ _=>rw[hx] at hn';cases hn';omega
  have hfk:t'.from key=if cv<0 then [] else [(x.key,x.value)]:=by
   rw[hul,hcv];unfold Tr.from Tr.Ah geK;by_cases hlt:Lib.compareBytes x.key key<0<;>simp[hlt]
  obtain⟨bs,hbs⟩:∃bs,bs=x.value:=⟨_,rfl⟩
  rw[←hbs] at hva hfk;have HFK:=Lib.hid hfk;have HVA:=Lib.hid hva;clear hkd hul hcv hfk hbs hva hdpt hsd hx q1 q2 q3 q4 q5 q6 q7 hk1 hk2 hd';go_wp2_with fail;refine HKD.out.mono ?_;rintro e w1 ⟨rfl,a1⟩;have A1:=Lib.hid a1;clear a1 hcell;go_wp2_with fail;refine(HKY.out _ A1.out).mono ?_;rintro e w2 ⟨rfl,a2⟩;have A2:=Lib.hid (A1.out.trans a2 (fun _=>fEq));clear a2 A1;obtain⟨w5,hw5⟩:∃w5,w5=(w2.alloc (.cells Z 47)).setRow w2.heap.size T:=⟨_,rfl⟩
  have r5:w5.heap[w2.heap.size]?=some (.cells T 47 (0,0)):=by rw[hw5];exact AK (heap_alloc_new _ _) _
  have a5:AN wc w5:=by rw[hw5];exact(A2.out.alloc _).setRow (.inr A2.out.size) _
  have k5:=a5.row HROW.out id;have R5:=(hIq r5 (aIq a5 k5))
  have HW5:=Lib.hid hw5;clear hw5 r5 a5 k5
  go_upto_region 9 with(first
   | fail
   | ((with_reducible show zOq (.alloc 47));refine AO rfl 47 rfl (.agg Z) HZ.out.1 ?_;dsimp only[Value.cells];try simp only[World.size_alloc])
   | ((with_reducible show zOq (.store 47 _ _));refine AI rfl 47 _ _ rfl w2.heap.size 0 T rfl rfl (heap_alloc_new _ _) (by rw[Ab,HT.out.2.1]) (by rw[HT.out.2.1,HZ.out.2];omega) HT.out.2.2.1 T (by rw[AT _ _ (by rw[Array.length_toList,Array.length_toList,HT.out.2.1,HZ.out.2])]) ?_))
  rw[←HW5.out]
  go_wp2_with (first
   | fail
   | ((with_reducible show zOq (.load 47 _));refine AJ rfl 47 _ rfl w2.heap.size 0 rfl R5.out.1 Tryz.underlying47 rfl Ab (by rw[HT.out.2.1];omega) T (by have:=HT.out.2.1;simp[←this]) ?_)
   | ((with_reducible show zOq (.load 47 _));refine AJ rfl 47 _ rfl b0 0 rfl R5.out.2.2 Tryz.underlying47 rfl Ab (by rw[HK.out.2.1];omega) K (by have:=HK.out.2.1;simp[←this]) ?_))
  refine(HCM.out _).mono ?_;rintro e w6 ⟨rfl,a6⟩;have A6:=(hIq (R5.out.2.1.trans a6 (fun _=>fEq)) (a6.row R5.out.1 id))
  clear a6;obtain⟨B,hB⟩:∃B,B=w2.heap.size:=⟨_,rfl⟩
  have hBw:wc.heap.size≤B:=by rw[hB];exact A2.out.size
  rw[←hB] at A6 ⊢;have HBW:=Lib.hid hBw;clear hB hBw;by_cases hlt:cv<0
  · have f3:decide (0≤cv)=false:=decide_eq_false (by omega)
    have hfk:=HFK.out;rw[if_pos hlt] at hfk;have HFK2:=Lib.hid hfk;have S6:=Lib.hid (HS.out.adds A6.out.1);clear hfk hlt;go_wp2_with fail;go_roundg (steps rest)
    case measure=>rw[EY];omega
    exact⟨rest,out,HD.out.1,rfl,by have:=HFR.out;rw[HFK2.out] at this;exact this,HGO.out.2.1,S6.out⟩
  have f3:decide (0≤cv)=true:=decide_eq_true (by omega);have hfk:=HFK.out;rw[if_neg hlt] at hfk;have HFK2:=Lib.hid hfk;clear hfk hlt;go_wp2;refine AP (fun w0=>w0.heap[B]?=some (.cells T 47 (0,0))) 9 [(0,false),(1,false),(2,false),(3,false),(4,true),(5,false),(6,true),(7,true),(8,false)] (by kernel_rfl) (by kernel_rfl) ?_ ?_
  · exact AM A6.out.2
  refine plan_look rfl rfl (fun w0 hS=>(by clear hS;go_simp;try rfl)) ?_;simp only[Act.put,nAq,nBq,nCq];refine Aa (cur:=T) (t:=47) (fr:=(0,0)) rfl rfl 47 _ rfl B 0 32 rfl (fun w0 hS=>hS) Tryz.underlying47 rfl Ab (by rw[HT.out.2.1];omega) T (by have:=HT.out.2.1;simp[←this]) ?_;simp only[Act.put,nAq,nBq,nCq]
  iterate 2
   refine plan_look rfl rfl (fun w0 hS=>(by clear hS;go_simp;try rfl)) ?_;simp only[Act.put,nAq,nBq,nCq]
  refine AW rfl ?_;go_wp2_with fail;refine(HVA.out _ A6.out.1.drew).mono ?_;rintro e w7 ⟨v7,rfl,hr7,a7⟩;have hb7:=hr7.bytes;have hv7:=hr7.lt;have hw7:BA w7 0 v7 bs:=hr7.base (fun _ _=>Nat.zero_le _);clear hr7;have HW7:=Lib.hid hw7;clear hw7;have hr7:=a7.row (AM A6.out.2) id;obtain⟨vo,vcap,rfl,_⟩:=hb7.form;have H7:=(hIq hb7 (aIq hv7 (aIq (A6.out.1.drew.trans a7 (fun _=>fEq)) hr7)))
  have H7b:=Lib.hid a7;clear hb7 hv7 a7 hr7;obtain⟨bn,hbn⟩:∃bn,bn=bs.length:=⟨_,rfl⟩
  rw[←hbn] at H7 ⊢;have HBN:=Lib.hid hbn;clear hbn;dsimp only;go_step;refine wpList_nil ?_;change _∧_;refine⟨H7.out.2.2.2,?_⟩;obtain⟨C,hC⟩:∃C,C=T++#[Value.slice vo bn vcap]:=⟨_,rfl⟩
  have hpb:=Gy T vo bn vcap HT.out.2.1;rw[←hC] at hpb
  have hCx:C=(Pr.mk x.key (.slice vo bn vcap) bs).cells:=by
   rw[hC,HT.out.1];apply Array.ext';simp[Pr.cells,AS]
  have hCs:C.size=33:=by rw[hC,Array.size_append,HT.out.2.1];rfl
  have hC1:∀v∈C.toList,v.oneCell'=true:=fun v hv=>by
   rw[hC,Array.toList_append,List.mem_append] at hv;rcases hv with hv|hv
   · exact HT.out.2.2.1 v hv
   obtain rfl:=List.mem_singleton.1 hv;rfl
  have HC:=(hIq hCx (aIq hCs (aIq hC1 hpb)))
  clear hC hpb hCx hCs hC1;refine Cm rfl rfl 86 0 1 _ _ rfl (.agg T) (.slice vo bn vcap) rfl rfl C HC.out.2.2.2 ?_;simp only[Act.put,nAq,nBq,nCq];refine AW rfl ?_
  go_wp2_with (first
   | fail
   | ((with_reducible show zOq (.buildSlice 56 _ _));refine Bo rfl 56 _ rfl 86 i0 z0 (.agg C) rfl Tryz.underlying56 HI.out.1 HI.out.2.1 (by rw[HI.out.2.2.1];decide) (by rw[HI.out.2.2.1];decide) (by rw[HI.out.2.2.1];exact HC.out.2.1) ?_))
  refine⟨AQ H7.out.2.2.2 _,?_⟩;refine AW rfl ?_
  go_wp2_with (first
   | fail
   | (at_builtin;refine BI rfl _ _ 56 rfl 86 i0 z0 33 56 Tryz.underlying56 HI.out.1 HI.out.2.1 HI.out.2.2.1 HI.out.2.2.2.1 HI.out.2.2.2.2 (by decide) (.slice o9 out.length c9) out.length (BZ out) rfl (((HS.out.told.row.adds H7.out.2.2.1).alloc _).base (fun _ _=>Nat.zero_le _)) ⟨w7.heap.size,0,none⟩ 1 1 C.toList rfl (by rw[Array.length_toList,HC.out.2.1]) (GI (heap_alloc_new w7 (.cells C 86))) HC.out.2.2.1 (by unfold maxLen;omega) (by omega) ?_;intro v' w8 own' grow' loc'))
  have hB8:w8.heap[B]?=some (.cells T 47 (0,0)):=by
   refine(grow'.block B ?_ ?_).trans (AQ H7.out.2.2.2 _)
   · have:=Ad H7.out.2.2.2;simp;omega
   intro e;have:=(HS.out.told.row.lt B e.symm).2;have:=HBW.out;omega
  have hS8:Dm base wb w8 v' (.slice (some ⟨g,0,none⟩) m cap) (out ++ [Pr.mk x.key (.slice vo bn vcap) bs]) (rest.map (·.1)):=by
   refine HS.out.tell (by have:=HB.out.2.2.1;omega) (by have:=HB.out.2.2.1;have:=HS.out.world.size;omega) H7.out.2.2.1 HT.out.2.2.2 (by have h7:=HW7.out;rw[←HBN.out] at h7;exact h7) (fun k hk=>?_) (by rw[←HC.out.1];exact own') grow' loc';obtain⟨p,q⟩:=H7.out.2.1 k hk;have:=A6.out.1.size;simp at p;exact⟨by omega,q⟩
  have S8:=(hIq hB8 hS8)
  clear own' grow' loc' hB8 hS8;refine⟨S8.out.1,?_⟩;refine plan_look rfl rfl (fun w0 hS=>(by clear hS;go_simp;try rfl)) ?_;simp only[Act.put,nAq,nBq,nCq];refine AZ ?_;simp only[List.drop_succ_cons,List.drop_zero];go_wp2;refine NoPanic.normal ?_;obtain⟨o8,c8,hv8⟩:=S8.out.2.told.row.form;rw[List.length_append,List.length_singleton] at hv8;subst hv8;go_wp2_with fail;go_roundg (steps rest)
  case measure=>rw[EY];omega
  refine⟨rest,out ++ [Pr.mk x.key (.slice vo bn vcap) bs],HD.out.1,rfl,?_,fun h0=>?_,S8.out.2⟩
  · have:=HFR.out
    rw[HFK2.out] at this;rw[List.map_append,List.append_assoc];exact this
  rw[List.length_append,List.length_singleton];have:=HGO.out.1;omega
section
variable {w : World} {s : Nat} {F : Nat→Prop} {σ : AG Nd} {root : Int} {t : Tr}
theorem Qi {k:List UInt8} {i:Nat} {x:UInt8} (hx:k[i]?=some x):k.take (i+1)=k.take i ++ [x]:=by rw[List.take_add_one,hx];rfl
theorem Ro {k:List UInt8} (hk:k.length=32) {i:Nat} {x:UInt8} (hi:i<32) (hx:k[i]?=some x) (hf:k.drop (i+1)=List.replicate (31-i) 255) (hn:x≠255):By k=(k.take i++(x+1)::List.replicate (31-i) 0,true):=by
 have e:k=k.take i++x::List.replicate (31-i) 255:=by
  rw[←hf];obtain⟨hlt,rfl⟩:=List.getElem?_eq_some_iff.1 hx;rw[List.getElem_cons_drop,List.take_append_drop]
 conv=>lhs;rw[e]
 exact Kk x hn (31-i) _
theorem Up (k:List UInt8) (hk:k.length=32) (w:World) :
 Calls Tryz.prog 165 #[.agg (AS k)] w fun e w'=>e=.returned (.tuple #[.agg (AS (By k).1),.bool (By k).2])∧AN w w':=by
 obtain⟨Z,hZ⟩:∃Z,Z=AS (List.replicate 32 0):=⟨_,rfl⟩
 have hzh:=Ft;have hzb:Tryz.prog.built 47 []=some (AS (List.replicate 32 0)):=by kernel_rfl
 rw[←hZ] at hzh hzb;have hZs:Z.size=32:=by rw[hZ];rfl
 have hz1:∀v∈Z.toList,v.oneCell'=true:=by rw[hZ];exact BO _
 obtain⟨K,hK⟩:∃K,K=AS k:=⟨_,rfl⟩
 rw[←hK];have HZ:=(hIq hzh (aIq hZs (aIq hzb (aIq hz1 hZ))))
 have HK:=(hIq hK hk)
 clear hZ hzh hzb hZs hz1 hK hk;go_enter Tryz.func165,Tryz.ntmps165;go_wp2_with (first|((with_reducible show zOq (.alloc 47));refine AO rfl 47 rfl (.agg Z) HZ.out.1 ?_;dsimp only[Value.cells];try simp only[World.size_alloc]));go_loopg [4] 33 (fun g s4 wr=>∃j:Nat,j≤32∧g=33-j∧s4=.int .i64 (31-(j:Int))∧k.drop (32-j)=List.replicate j 255∧wr.heap[w.heap.size]?=some (.cells (AS (k.take (32-j)++List.replicate j 0)) 47 (0,0))∧wr.heap[w.heap.size+1]?=some (.cells Z 47 (0,0))∧AN w wr)
 case atStart =>
  refine⟨0,Nat.zero_le _,rfl,rfl,?_,?_,?_,((Ch.refl _ _).alloc _).alloc _⟩
  · rw[List.drop_eq_nil_of_le (by have:=HK.out.2;omega)];rfl
  · rw[List.replicate_zero,List.append_nil,List.take_of_length_le (by have:=HK.out.2;omega), ←HK.out.1]
    exact AQ (heap_alloc_new _ _) _
  have:=heap_alloc_new (w.alloc (.cells K 47)) (.cells Z 47);simpa using this
 obtain⟨j,hj,rfl,rfl,hf,hr,hz,hch⟩:=hrel;by_cases hj32:j=32
 · subst hj32
   have hoff:=Hp 32;have hk2:k=List.replicate 32 255:=by simpa using hf
   have HO:=Lib.hid (show By k=(List.replicate 32 0,false) by rw[hk2];exact hoff);have HC:=(hIq hz hch)
   clear hoff hk2 hf hr hz hch hj
   go_wp2_with (first
    | fail
    | ((with_reducible show zOq (.build 47 _));refine Ax rfl 47 rfl Z HZ.out.2.2.1 ?_)
    | ((with_reducible show zOq (.store 47 _ _));refine AI rfl 47 _ _ rfl (w.heap.size+1) 0 Z rfl rfl HC.out.1 (by rw[Ab,HZ.out.2.1]) (by rw[HZ.out.2.1];omega) HZ.out.2.2.2.1 Z (by rw[AT _ _ rfl]) ?_))
   exact Al (p:=2) (u:=3) rfl rfl (AK HC.out.1 _) Tryz.underlying47 rfl (by rw[Ab,HZ.out.2.1]) rfl ⟨by rw[HO.out, ←HZ.out.2.2.2.2];rfl,HC.out.2.setRow (.inr (by omega)) _⟩
 obtain⟨i,hi⟩:∃i,i=31-j:=⟨_,rfl⟩
 have hi32:i<32:=by omega
 have hix:(31:Int)-(j:Int)=(i:Int):=by omega
 have hj31:j≤31:=by omega
 have hij:32-j=i+1:=by omega
 obtain⟨x,hx⟩:∃x,k[i]?=some x:=⟨_,List.getElem?_eq_getElem (by have:=HK.out.2;omega)⟩
 have hcur:(AS (k.take (32-j)++List.replicate j 0))[i]?=some (.int .u8 (x.toNat:Int)):=by
  refine EV ?_;rw[hij,List.getElem?_append_left (by rw[List.length_take];have:=HK.out.2;omega),List.getElem?_take_of_lt (by omega)];exact hx
 have hnew:(AS (k.take (32-j)++List.replicate j 0)).setIfInBounds i (bv (x+1))=AS (k.take i++(x+1)::List.replicate j 0):=by
  rw[Bv,hij,Qi hx]
  congr 1
  rw[List.set_append_left _ _ (by rw[List.length_append,List.length_take,List.length_singleton];have:=HK.out.2;omega),List.set_append_right _ _ (by rw[List.length_take];omega)];rw[List.length_take,Nat.min_eq_left (by have:=HK.out.2;omega),Nat.sub_self]
  first|done|simp
 have c1:=AH hr hcur;have f1:=Ai hr i;have hx2:=x.toNat_lt;have h31:(i:Int)≤31:=by omega
 have h31':i≤31:=by omega
 have hxu:(x+1).toNat=(x.toNat+1) % 256:=by rw[UInt8.toNat_add];rfl
 have hwu:IntKind.u8.wrap ((x.toNat:Int)+1)=((x+1).toNat:Int):=by
  rw[hxu,IntKind.wrap];simp[IntKind.signed,IntKind.bits]
 have hwi:wrap64 ((i:Int)-1)=(i:Int)-1:=by unfold wrap64;omega
 have HR:=(hIq hr hnew)
 have HC:=(hIq hz hch)
 have HX:=(hIq hx (aIq hf (aIq hi hij)))
 rw[hix];clear hr hz hch hnew hcur hx hf hi hij hix hj32 hxu;by_cases h255:x=255
 · have hx0:(x+1).toNat=0:=by rw[h255];rfl
   rw[hx0] at hwu;have H255:=(hIq h255 hx0)
   have hwu2:IntKind.u8.wrap ((x.toNat:Int)+1)=0:=hwu;clear h255 hx0 hwu;go_wp2;go_roundg (33-(j+1))
   case measure=>omega
   have hb:bv (x+1)=.int .u8 0:=by unfold bv;rw[H255.out.2];rfl
   have hrs:=AV HR.out.1 i (bv (x+1));rw[HR.out.2,hb] at hrs;have hi31:=HX.out.2.2.1;refine⟨j+1,by omega,rfl,by first|(congr 1;omega)|(simp;omega),?_,?_,Ak HC.out.1 (by simp) _,HC.out.2.setCell (.inr (Nat.le_refl _)) _⟩
   · have h1:=HX.out.2.1
     rw[HX.out.2.2.2] at h1;obtain⟨hlt,he⟩:=List.getElem?_eq_some_iff.1 HX.out.1;rw[show 32-(j+1)=i by have:=HX.out.2.2.1;omega,List.drop_eq_getElem_cons hlt,he,h1,H255.out.1];rfl
   rw[show 32-(j+1)=i by have:=HX.out.2.2.1;omega];have e:k.take i++(x+1)::List.replicate j 0=k.take i++List.replicate (j+1) 0:=by rw[List.replicate_succ,H255.out.1];rfl
   rw[←e];exact hrs
 have hx0:¬(x+1).toNat=0:=fun e=>h255 (by
  have h2:x.toNat=255:=by rw[UInt8.toNat_add] at e;change (x.toNat+1) % 256=0 at e;omega
  exact UInt8.toNat_inj.1 h2)
 have hnz:(((x+1).toNat:Int) != 0)=true:=bne_iff_ne.2 (by omega);have hnk:=Ro HK.out.2 hi32 HX.out.1 (by have h1:=HX.out.2.1;rw[HX.out.2.2.2] at h1;rw[h1,show 31-i=j by have:=HX.out.2.2.1;omega]) h255;obtain⟨O,hO⟩:∃O,O=AS (k.take i++(x+1)::List.replicate j 0):=⟨_,rfl⟩
 have hij2:31-i=j:=by have:=HX.out.2.2.1;omega
 rw[hij2] at hnk;have hOl:O.size=32:=by rw[hO,AU];have:=EM k;rw[hnk] at this;rw[this];exact HK.out.2
 have hO1:∀v∈O.toList,v.oneCell'=true:=by rw[hO];exact BO _
 have hrs:=AV HR.out.1 i (bv (x+1));rw[HR.out.2, ←hO] at hrs;obtain⟨y,hy⟩:∃y,y=(x+1).toNat:=⟨_,rfl⟩
 have hby:bv (x+1)=.int .u8 (y:Int):=by subst hy;rfl
 rw[hby] at hrs;rw[←hy] at hwu hnz;have HO:=(hIq hO (aIq hOl (aIq hO1 hnk)))
 have HRS:=Lib.hid hrs;clear h255 hx0 hnk hO hOl hO1 hrs hy hby hij2
 go_wp2_with (first
  | fail
  | ((with_reducible show zOq (.load 47 _));refine AJ rfl 47 _ rfl w.heap.size 0 rfl HRS.out Tryz.underlying47 rfl Ab (by rw[HO.out.2.1];omega) O (by have:=HO.out.2.1;simp[←this]) ?_)
  | ((with_reducible show zOq (.store 47 _ _));refine AI rfl 47 _ _ rfl (w.heap.size+1) 0 O rfl rfl (Ak HC.out.1 (by simp) _) (by rw[Ab,HO.out.2.1]) (by rw[HO.out.2.1,HZ.out.2.1];omega) HO.out.2.2.1 O (by rw[AT _ _ (by rw[Array.length_toList,Array.length_toList,HO.out.2.1,HZ.out.2.1])]) ?_))
 exact Al (p:=2) (u:=3) rfl rfl (AK (Ak HC.out.1 (by simp) _) _) Tryz.underlying47 rfl (by rw[Ab,HO.out.2.1]) rfl ⟨by rw[HO.out.2.2.2,HO.out.1];rfl,(HC.out.2.setCell (.inr (Nat.le_refl _)) _).setRow (.inr (by omega)) _⟩
end
section
variable {w : World} {s : Nat} {F : Nat→Prop} {σ : AG Nd} {root : Int} {t : Tr}
theorem QF (h:At w s F σ) (G:Good σ) (hr:Rep (sk σ) root 0 t) (h0:AX σ root=0) :
 Calls Tryz.prog 72 #[.pointer (some ⟨s,0,none⟩),.int .i64 root] w fun e w'=>e=.returned (.tuple #[.int .i64 (t.leaves:Nat),.int .i64 0])∧AN w w':=by
 have hrt:=Store.CU h root;rw[h0] at hrt;have hsz:=fun w1 (a:AN w w1)=>FU (h.adds a) root
 rw[(Bm h G hr).1] at hsz;have HR:=Lib.hid hrt;have HS:=Lib.hid hsz;clear h G hr h0 hrt hsz;go_enter Tryz.func72,Tryz.ntmps72;go_wp2_with fail;refine HR.out.mono ?_;rintro e w1 ⟨rfl,a1⟩;have A1:=Lib.hid a1;clear a1;go_wp2_with fail;refine(HS.out _ A1.out).mono ?_;rintro e w2 ⟨rfl,a2⟩;have A2:=Lib.hid (A1.out.trans a2 (fun _=>fEq));clear a2;go_wp2_with fail;go_ret2;exact⟨rfl,A2.out⟩
theorem Ma (w:World) (K:Array Value):(w.alloc (.cells K 47)).heap[w.heap.size]?=some (.cells K 47 (0,0)):=heap_alloc_new _ _
theorem UQ (h:At w s F σ) (G:Good σ) (hr:Rep (sk σ) root 0 t) (h0:AX σ root=0) (key:List UInt8) (hk:key.length=32) :
 Calls Tryz.prog 74 #[.pointer (some ⟨s,0,none⟩),.int .i64 root,.agg (AS key)] w fun e w'=>e=.returned (.tuple #[.int .i64 (t.Bx key:Nat),.int .i64 0])∧AN w w':=by
 obtain⟨K,hK⟩:∃K,K=AS key:=⟨_,rfl⟩
 have hKs:K.size=32:=by rw[hK,AU,hk]
 have ha:AN w (w.alloc (.cells K 47)):=(Ch.refl _ _).alloc _;have hrt:=Store.CU (h.adds ha) root;rw[h0] at hrt;have hrk:=fun w1 (a:AN w w1)=>Ly (h.adds a) G hr key hk
 rw[←hK] at hrk ⊢;have HR:=Lib.hid hrt;have HS:=Lib.hid hrk;have HK:=Lib.hid hKs;have HA:=Lib.hid ha;clear h G hr h0 hrt hrk hK hKs hk ha;go_enter Tryz.func74,Tryz.ntmps74;go_wp2_with fail;refine HR.out.mono ?_;rintro e w1 ⟨rfl,a1⟩;have A1:=(hIq (HA.out.trans a1 (fun _=>fEq)) (a1.row (Ma w K) id))
 clear a1
 go_wp2_with (first
  | fail
  | ((with_reducible show zOq (.load 47 _));refine AJ rfl 47 _ rfl w.heap.size 0 rfl A1.out.2 Tryz.underlying47 rfl Ab (by rw[HK.out];omega) K (by have:=HK.out;simp[←this]) ?_))
 refine(HS.out _ A1.out.1).mono ?_;rintro e w2 ⟨rfl,a2⟩;have A2:=Lib.hid (A1.out.1.trans a2 (fun _=>fEq));clear a2;go_wp2_with fail;go_ret2;exact⟨rfl,A2.out⟩
theorem UH (h:At w s F σ) (G:Good σ) (hr:Rep (sk σ) root 0 t) (h0:AX σ root=0) (key:List UInt8) (hk:key.length=32) (most:Int) (hm:0≤most∧most≤256) :
 Calls Tryz.prog 26 #[.pointer (some ⟨s,0,none⟩),.int .i64 root,.agg (AS key),.int .i64 most] w fun e w'=>∃v out,e=.returned (.tuple #[v,.int .i64 0])∧Told w.heap.size w' v out∧out.map Pr.ent=(t.from key).take most.toNat∧AN w w':=by
 obtain⟨K,hK⟩:∃K,K=AS key:=⟨_,rfl⟩
 have hKs:K.size=32:=by rw[hK,AU,hk]
 have ha:AN w (w.alloc (.cells K 47)):=(Ch.refl _ _).alloc _;have hrt:=Store.CU (h.adds ha) root;rw[h0] at hrt;have hrk:=fun w1 (a:AN w w1)=>PY (h.adds a) G hr key hk most
 rw[show t.some key most=(t.from key).take most.toNat by unfold Tr.some;rw[if_neg (by omega)]] at hrk;rw[←hK] at hrk ⊢;have HR:=Lib.hid hrt;have HS:=Lib.hid hrk;have HK:=Lib.hid hKs;have HA:=Lib.hid ha;have f1:decide (most<0)=false:=decide_eq_false (by omega);have f2:decide (256<most)=false:=decide_eq_false (by omega);clear h G hr h0 hrt hrk hK hKs hk ha hm;go_enter Tryz.func26,Tryz.ntmps26;go_wp2_with fail;refine HR.out.mono ?_;rintro e w1 ⟨rfl,a1⟩;have A1:=(hIq (HA.out.trans a1 (fun _=>fEq)) (a1.row (Ma w K) id))
 clear a1
 go_wp2_with (first
  | fail
  | ((with_reducible show zOq (.load 47 _));refine AJ rfl 47 _ rfl w.heap.size 0 rfl A1.out.2 Tryz.underlying47 rfl Ab (by rw[HK.out];omega) K (by have:=HK.out;simp[←this]) ?_))
 refine(HS.out _ A1.out.1).mono ?_;rintro e w2 ⟨v,out,rfl,ht,he,a2⟩;obtain⟨vo,vc,rfl⟩:=ht.row.form;have A2:=(hIq ht (aIq he (aIq (A1.out.1.trans a2 (fun _=>fEq)) A1.out.1.size)))
 clear a2 ht he;go_wp2_with fail;go_ret2;have ht:=A2.out.1;have tt:Told w.heap.size w2 (.slice vo out.length vc) out:=⟨(show RowP _ _ _ _ from ht.row).base (fun k hk=>Nat.le_trans A2.out.2.2.2 (ht.row.lt k hk).1),fun x hx=>by obtain⟨p,q,r⟩:=ht.vals x hx;exact⟨p,q,fun k hk=>⟨Nat.le_trans A2.out.2.2.2 (r k hk).1,(r k hk).2⟩⟩,ht.apart,ht.whole⟩
 first
  | exact⟨_,out,rfl,tt,A2.out.2.1,A2.out.2.2.1⟩
  | exact⟨_,rfl,out,tt,A2.out.2.1,A2.out.2.2.1⟩
theorem SU (h:At w s F σ) (h0:AX σ root=0) (K:Array Value) (most:Int) (hm:most<0∨256<most) :
 Calls Tryz.prog 26 #[.pointer (some ⟨s,0,none⟩),.int .i64 root,.agg K,.int .i64 most] w fun e w'=>e=.returned (.tuple #[.slice none 0 0,.int .i64 2])∧AN w w':=by
 have ha:AN w (w.alloc (.cells K 47)):=(Ch.refl _ _).alloc _;have hrt:=Store.CU (h.adds ha) root;rw[h0] at hrt;have HR:=Lib.hid hrt;have HA:=Lib.hid ha;by_cases hm0:most<0
 · have f1:decide (most<0)=true:=decide_eq_true hm0
   clear h h0 hrt ha hm hm0;go_enter Tryz.func26,Tryz.ntmps26;go_wp2_with fail;refine HR.out.mono ?_;rintro e w1 ⟨rfl,a1⟩;have A1:=Lib.hid (HA.out.trans a1 (fun _=>fEq));clear a1;go_wp2_with fail;go_ret2;exact⟨rfl,A1.out⟩
 have f1:decide (most<0)=false:=decide_eq_false hm0;have f2:decide (256<most)=true:=decide_eq_true (by omega);clear h h0 hrt ha hm hm0;go_enter Tryz.func26,Tryz.ntmps26;go_wp2_with fail;refine HR.out.mono ?_;rintro e w1 ⟨rfl,a1⟩;have A1:=Lib.hid (HA.out.trans a1 (fun _=>fEq));clear a1;go_wp2_with fail;go_ret2;exact⟨rfl,A1.out⟩
def Di:Array Value:=(List.replicate 32 (Value.int .u8 0) ++ [Value.slice none 0 0]).toArray
theorem Hj:(Tryz.prog.info? 86).bind (·.zero)=some (.agg Di)∧Di.size=33∧(∀v∈Di.toList,v.oneCell'=true)∧Tryz.prog.built 86 []=some Di:=by
 refine⟨by kernel_rfl,rfl,fun v hv=>?_,by kernel_rfl⟩;unfold Di at hv;simp at hv;rcases hv with rfl|rfl<;>rfl
theorem Uz (h:At w s F σ) (G:Good σ) (hr:Rep (sk σ) root 0 t) (h0:AX σ root=0) (n:Int) (hn:n<0∨(t.leaves:Int)≤n) :
 Calls Tryz.prog 76 #[.pointer (some ⟨s,0,none⟩),.int .i64 root,.int .i64 n] w fun e w'=>e=.returned (.tuple #[.agg Di,.int .i64 (if n<0 then 2 else 7)])∧AN w w':=by
 obtain⟨Z,hZ⟩:∃Z,Z=Di:=⟨_,rfl⟩
 obtain⟨hz0,hz1,hz2,hz3⟩:=Hj;rw[←hZ] at hz0 hz1 hz2 hz3 ⊢;have ha:AN w (w.alloc (.cells Z 86)):=(Ch.refl _ _).alloc _;have hrt:=Store.CU (h.adds ha) root;rw[h0] at hrt;have hsz:=fun w1 (a:AN w w1)=>FU (h.adds a) root
 rw[(Bm h G hr).1] at hsz;have HR:=Lib.hid hrt;have HS:=Lib.hid hsz;have HA:=Lib.hid ha;have HZ:=(hIq hz0 (aIq hz1 (aIq hz2 hz3)))
 have hrow:=heap_alloc_new w (.cells Z 86);have HROW:=Lib.hid hrow;obtain⟨lv,hlv⟩:∃lv,lv=t.leaves:=⟨_,rfl⟩
 rw[←hlv] at hn HS;by_cases hm0:n<0
 · have f1:decide (n<0)=true:=decide_eq_true hm0
   rw[if_pos hm0];clear h G hr h0 hrt hsz ha hz0 hz1 hz2 hz3 hrow hlv hn hm0 hZ;go_enter Tryz.func76,Tryz.ntmps76;go_wp2_with (first|fail|((with_reducible show zOq (.alloc 86));refine AO rfl 86 rfl (.agg Z) HZ.out.1 ?_;dsimp only[Value.cells];try simp only[World.size_alloc]));refine HR.out.mono ?_;rintro e w1 ⟨rfl,a1⟩;have A1:=(hIq (HA.out.trans a1 (fun _=>fEq)) (a1.row HROW.out id))
   clear a1
   go_wp2_with (first
    | fail
    | ((with_reducible show zOq (.build 86 #[]));refine Ax rfl 86 rfl Z HZ.out.2.2.2 ?_)
    | ((with_reducible show zOq (.store 86 _ _));refine AI rfl 86 _ _ rfl w.heap.size 0 Z rfl rfl A1.out.2 (by rw[B8,HZ.out.2.1]) (by rw[HZ.out.2.1];omega) HZ.out.2.2.1 Z (by rw[AT _ _ rfl]) ?_))
   exact Al (p:=6) (u:=7) rfl rfl (AK A1.out.2 _) Tryz.underlying86 rfl (by rw[B8,HZ.out.2.1]) rfl ⟨rfl,A1.out.1.setRow (.inr (Nat.le_refl _)) _⟩
 have f1:decide (n<0)=false:=decide_eq_false hm0;have f2:decide ((lv:Int)≤n)=true:=decide_eq_true (by omega);rw[if_neg hm0];clear h G hr h0 hrt hsz ha hz0 hz1 hz2 hz3 hrow hlv hn hm0 hZ;go_enter Tryz.func76,Tryz.ntmps76;go_wp2_with (first|fail|((with_reducible show zOq (.alloc 86));refine AO rfl 86 rfl (.agg Z) HZ.out.1 ?_;dsimp only[Value.cells];try simp only[World.size_alloc]));refine HR.out.mono ?_;rintro e w1 ⟨rfl,a1⟩;have A1:=(hIq (HA.out.trans a1 (fun _=>fEq)) (a1.row HROW.out id))
 clear a1;go_wp2_with fail;refine(HS.out _ A1.out.1).mono ?_;rintro e w2 ⟨rfl,a2⟩;have A2:=(hIq (A1.out.1.trans a2 (fun _=>fEq)) (a2.row A1.out.2 id))
 clear a2
 go_wp2_with (first
  | fail
  | ((with_reducible show zOq (.build 86 #[]));refine Ax rfl 86 rfl Z HZ.out.2.2.2 ?_)
  | ((with_reducible show zOq (.store 86 _ _));refine AI rfl 86 _ _ rfl w.heap.size 0 Z rfl rfl A2.out.2 (by rw[B8,HZ.out.2.1]) (by rw[HZ.out.2.1];omega) HZ.out.2.2.1 Z (by rw[AT _ _ rfl]) ?_))
 exact Al (p:=6) (u:=7) rfl rfl (AK A2.out.2 _) Tryz.underlying86 rfl (by rw[B8,HZ.out.2.1]) rfl ⟨rfl,A2.out.1.setRow (.inr (Nat.le_refl _)) _⟩
theorem Vg (h:At w s F σ) (G:Good σ) (hr:Rep (sk σ) root 0 t) (h0:AX σ root=0) (n:Nat) (e0:List UInt8×List UInt8) (hn:t.Ah[n]?=some e0) :
 Calls Tryz.prog 76 #[.pointer (some ⟨s,0,none⟩),.int .i64 root,.int .i64 (n:Int)] w fun e w'=>∃x:Pr,e=.returned (.tuple #[.agg x.cells,.int .i64 0])∧x.ent=e0∧x.key.length=32∧Bytes w' x.vv x.val∧(∀k,x.vv.ownBlock=some k→w.heap.size≤k∧k<w'.heap.size)∧AN w w':=by
 obtain⟨Z,hZ⟩:∃Z,Z=Di:=⟨_,rfl⟩
 obtain⟨hz0,hz1,hz2,hz3⟩:=Hj;rw[←hZ] at hz0 hz1 hz2 hz3;have ha:AN w (w.alloc (.cells Z 86)):=(Ch.refl _ _).alloc _;have hrt:=Store.CU (h.adds ha) root;rw[h0] at hrt;have hsz:=fun w1 (a:AN w w1)=>FU (h.adds a) root
 rw[(Bm h G hr).1] at hsz;have hrow:=heap_alloc_new w (.cells Z 86);have hnl:n<t.leaves:=by rw[←Tr.BS];exact(List.getElem?_eq_some_iff.1 hn).1
 have hl6:=(Bm h G hr).2;have HAT:=Lib.hid h;have HG:=Lib.hid G;have HR:=Lib.hid hrt;have HS:=Lib.hid hsz;have HA:=Lib.hid ha;have HZ:=(hIq hz0 (aIq hz1 (aIq hz2 hz3)))
 have HROW:=Lib.hid hrow;have HT:=(hIq hr hn)
 obtain⟨lv,hlv⟩:∃lv,lv=t.leaves:=⟨_,rfl⟩
 rw[←hlv] at hnl HS hl6;have f1:decide ((n:Int)<0)=false:=decide_eq_false (by omega);have f2:decide ((lv:Int)≤(n:Int))=false:=decide_eq_false (by omega);have f2':decide (lv≤n)=false:=decide_eq_false (by omega);clear h G hr h0 hrt hsz ha hz0 hz1 hz2 hz3 hrow hlv hn hZ;go_enter Tryz.func76,Tryz.ntmps76;go_wp2_with (first|fail|((with_reducible show zOq (.alloc 86));refine AO rfl 86 rfl (.agg Z) HZ.out.1 ?_;dsimp only[Value.cells];try simp only[World.size_alloc]));refine HR.out.mono ?_;rintro e w1 ⟨rfl,a1⟩;have A1:=(hIq (HA.out.trans a1 (fun _=>fEq)) (a1.row HROW.out id))
 clear a1;go_wp2_with fail;refine(HS.out _ A1.out.1).mono ?_;rintro e w2 ⟨rfl,a2⟩;have A2:=(hIq (A1.out.1.trans a2 (fun _=>fEq)) (a2.row A1.out.2 id))
 have hn6:n≤65536:=by omega
 clear a2 hnl hl6;go_wp2_with fail;clear f1 f2 f2';go_loopg [2,9] 257 (fun g s2 s9 wr=>∃(c:Int) (d m:Nat) (u:Tr),s2=.int .i64 (m:Int)∧s9=.int .i64 c∧Rep (sk σ) c d u∧u.Ah[m]?=some e0∧d+g=257∧d≤256∧m≤65536∧AN w wr∧wr.heap[w.heap.size]?=some (.cells Z 86 (0,0)))
 case atStart=>exact⟨root,0,n,t,rfl,rfl,HT.out.1,HT.out.2,rfl,by omega,hn6,A2.out.1,A2.out.2⟩
 obtain⟨c,d,m,u,rfl,rfl,hu,hm,hg,hd,hm6,hA,hrow⟩:=hrel;have hAt:=HAT.out.adds hA;have hc0:c≠0:=fun e=>by rw[e] at hu;rw[hu.D1 HG.out.fit.zero] at hm;simp[Tr.Ah] at hm
 obtain⟨x,hx⟩:=hu.live.resolve_left hc0;have hkl:x.key.length=32:=(HG.out.fit.all _ _ hx).key;obtain⟨q1,q2,q3,q4,q5,q6,q7⟩:=Hd hx;have hkd:=IQ hAt c;have hky:=fun w1 (a:AN wr w1)=>I3 (hAt.adds a) c
 have hva:=fun w1 (a:AN wr w1)=>Hu (hAt.adds a) c
 have hsd:=fun w1 (a:AN wr w1)=>GU (hAt.adds a) c
 rw[q2] at hkd;rw[q6] at hky;rw[q7] at hva;have HN:=(hIq hg (aIq hA hrow))
 by_cases hk2:x.kind=2
 · rw[hk2] at hkd
   have HKD:=Lib.hid hkd
   obtain⟨l,r,hdx,hl,hr,rfl⟩:∃l r,x.depth=(d:Nat)∧Rep (sk σ) x.left (d+1) l∧Rep (sk σ) x.right (d+1) r∧u=.node l r:=by
    cases hu with
    | nil=>rw[HG.out.fit.zero] at hx;cases hx
    | leaf hn' h1=>rw[hx] at hn';cases hn';omega
    | node hn' _ h2 hl hr=>rw[hx] at hn';cases hn';exact⟨_,_,h2,hl,hr,rfl⟩
   have hd1:=(HG.out.fit.inner hx hk2).d1;have hd255:d≤255:=by omega
   have hsl:=Bm hAt HG.out hl;have hss:=fun w1 (a:AN wr w1)=>FU (hAt.adds a) x.left
   rw[hsl.1] at hss;have hll:=hsl.2;have hel:=Tr.BS l;have hm2:(l.Ah++r.Ah)[m]?=some e0:=hm;obtain⟨nl,hnl⟩:∃nl,nl=x.left:=⟨_,rfl⟩
   obtain⟨nr,hnr⟩:∃nr,nr=x.right:=⟨_,rfl⟩
   rw[q4,q5, ←hnl, ←hnr] at hsd;rw[←hnl] at hl hss;rw[←hnr] at hr;obtain⟨lk,hlk⟩:∃lk,lk=l.leaves:=⟨_,rfl⟩
   rw[←hlk] at hss hll hel;have HSD:=Lib.hid hsd;have HSS:=Lib.hid hss;have HLR:=(hIq hl (aIq hr (aIq hel hm2)))
   clear hkd hky hva hsd hss hl hr hel hm2 hsl hlk hnl hnr hx q1 q2 q3 q4 q5 q6 q7 hAt hu hm hg hA hrow hdx hd1 hk2 hc0;go_wp2_with fail;refine HKD.out.mono ?_;rintro e w3 ⟨rfl,a3⟩;have A3:=Lib.hid a3;clear a3;go_wp2_with fail;refine(HSD.out _ A3.out).mono ?_;rintro e w4 ⟨rfl,a4⟩;have A4:=Lib.hid (A3.out.trans a4 (fun _=>fEq));clear a4 A3;go_wp2_with fail;refine(HSS.out _ A4.out).mono ?_;rintro e w5 ⟨rfl,a5⟩;have A5:=Lib.hid (A4.out.trans a5 (fun _=>fEq));clear a5 A4;by_cases hge:lk≤m
   · have g1:decide ((lk:Int)≤(m:Int))=true:=decide_eq_true (by omega)
     have g1':decide (lk≤m)=true:=decide_eq_true hge;have hwn:wrap64 ((m:Int)-(lk:Int))=((m-lk:Nat):Int):=by unfold wrap64;omega
     have hmr:=HLR.out.2.2.2;rw[List.getElem?_append_right (by have:=HLR.out.2.2.1;omega),HLR.out.2.2.1] at hmr;have HMR:=Lib.hid hmr;have HGE:=Lib.hid hge;clear hmr hge;go_wp2_with fail;go_roundg (gk-1)
     case measure=>have:=HN.out.1;omega
     exact⟨nr,d+1,m-lk,r,by first|rfl|rw[hwn]|(congr 1;have:=HGE.out;omega),rfl,HLR.out.2.1,HMR.out,by have:=HN.out.1;omega,by omega,by omega,HN.out.2.1.trans A5.out (fun _=>fEq),A5.out.row HN.out.2.2 id⟩
   have g1:decide ((lk:Int)≤(m:Int))=false:=decide_eq_false (by omega);have g1':decide (lk≤m)=false:=decide_eq_false hge;have hmr:=HLR.out.2.2.2;rw[List.getElem?_append_left (by have:=HLR.out.2.2.1;omega)] at hmr;have HMR:=Lib.hid hmr;clear hmr hge;go_wp2_with fail;go_roundg (gk-1)
   case measure=>have:=HN.out.1;omega
   exact⟨nl,d+1,m,l,rfl,rfl,HLR.out.1,HMR.out,by have:=HN.out.1;omega,by omega,by omega,HN.out.2.1.trans A5.out (fun _=>fEq),A5.out.row HN.out.2.2 id⟩
 have hk1:=(HG.out.fit.leaf hx hk2).1;rw[hk1] at hkd;have HKD:=Lib.hid hkd
 have hul:u=.leaf x.key x.value:=by
  cases hu with
  | nil=>rw[HG.out.fit.zero] at hx;cases hx
  | leaf hn' h1=>rw[hx] at hn';cases hn';rfl
  | node hn' h1 _ _ _=>rw[hx] at hn';cases hn';omega
 have he0:e0=(x.key,x.value):=by
  rw[hul] at hm;cases m with
  | zero=>simpa[Tr.Ah] using hm.symm
  | succ m=>simp[Tr.Ah] at hm
 obtain⟨T,hT⟩:∃T,T=AS x.key:=⟨_,rfl⟩
 have hTs:T.size=32:=by rw[hT,AU,hkl]
 have hT1:∀v∈T.toList,v.oneCell'=true:=by rw[hT];exact BO _
 rw[←hT] at hky;obtain⟨bs,hbs⟩:∃bs,bs=x.value:=⟨_,rfl⟩
 rw[←hbs] at hva he0;have HTT:=(hIq hT (aIq hTs (aIq hT1 (aIq hkl he0))))
 have HKY:=Lib.hid hky;have HVA:=Lib.hid hva;clear hkd hky hva hsd hul he0 hT hTs hT1 hkl hbs hx q1 q2 q3 q4 q5 q6 q7 hAt hu hm hg hA hrow hk1 hk2 hc0;go_wp2_with fail;refine HKD.out.mono ?_;rintro e w3 ⟨rfl,a3⟩;have A3:=Lib.hid a3;clear a3;go_wp2_with fail;refine(HKY.out _ A3.out).mono ?_;rintro e w4 ⟨rfl,a4⟩;have A4:=Lib.hid (A3.out.trans a4 (fun _=>fEq));clear a4 A3;go_wp2_with fail;refine(HVA.out _ A4.out).mono ?_;rintro e w7 ⟨v7,rfl,hb7,hv7,a7⟩;obtain⟨vo,vcap,rfl,_⟩:=hb7.form;have A7:=(hIq hb7 (aIq hv7 (aIq (HN.out.2.1.trans (A4.out.trans a7 (fun _=>fEq)) (fun _=>fEq)) (aIq ((A4.out.trans a7 (fun _=>fEq)).row HN.out.2.2 id) (HN.out.2.1.trans A4.out (fun _=>fEq)).size))))
 clear hb7 hv7 a7;obtain⟨bn,hbn⟩:∃bn,bn=bs.length:=⟨_,rfl⟩
 rw[←hbn] at A7 ⊢;obtain⟨C,hC⟩:∃C,C=T++#[Value.slice vo bn vcap]:=⟨_,rfl⟩
 have hpb:=Gy T vo bn vcap HTT.out.2.1;rw[←hC] at hpb
 have hCx:C=(Pr.mk x.key (.slice vo bn vcap) bs).cells:=by
  rw[hC,HTT.out.1];apply Array.ext';simp[Pr.cells,AS]
 have hCs:C.size=33:=by rw[hC,Array.size_append,HTT.out.2.1];rfl
 have hC1:∀v∈C.toList,v.oneCell'=true:=fun v hv=>by
  rw[hC,Array.toList_append,List.mem_append] at hv;rcases hv with hv|hv
  · exact HTT.out.2.2.1 v hv
  obtain rfl:=List.mem_singleton.1 hv;rfl
 have HC:=(hIq hCx (aIq hCs (aIq hC1 hpb)))
 clear hC hpb hCx hCs hC1 hbn
 go_wp2_with (first
  | fail
  | ((with_reducible show zOq (.build 86 _));refine Dq rfl 86 0 1 _ _ rfl (.agg T) (.slice vo bn vcap) rfl rfl C HC.out.2.2.2 ?_)
  | ((with_reducible show zOq (.store 86 _ _));refine AI rfl 86 _ _ rfl w.heap.size 0 C rfl rfl A7.out.2.2.2.1 (by rw[B8,HC.out.2.1]) (by rw[HC.out.2.1,HZ.out.2.1];omega) HC.out.2.2.1 C (by rw[AT _ _ (by rw[Array.length_toList,Array.length_toList,HC.out.2.1,HZ.out.2.1])]) ?_))
 refine Al (p:=6) (u:=7) rfl rfl (AK A7.out.2.2.2.1 _) Tryz.underlying86 rfl (by rw[B8,HC.out.2.1]) rfl ⟨⟨x.key,.slice vo bn vcap,bs⟩,by rw[HC.out.1];rfl,HTT.out.2.2.2.2.symm,HTT.out.2.2.2.1,?_,fun k hk=>?_,A7.out.2.2.1.setRow (.inr (Nat.le_refl _)) _⟩
 · have hlt:=Ad HN.out.2.2
   refine A7.out.1.Ae ((Ch.refl (fun k=>k=w.heap.size) w7).setRow (.inl rfl) _) (fun k hk e=>?_);have:=(A7.out.2.1 k hk).1;have:=A4.out.size;omega
 obtain⟨p,q⟩:=A7.out.2.1 k hk;have:=A7.out.2.2.2.2;exact⟨by omega,by simpa using q⟩
end
def Tr.DH (t:Tr) (b:List UInt8):Nat:=if (By b).2=true then t.Bx (By b).1 else t.leaves
def Tr.JY (t:Tr) (a b:List UInt8):Int:=if Lib.compareBytes b a<0 then 0 else (t.DH b:Int)-(t.Bx a:Int)
section
variable {w : World} {s : Nat} {F : Nat→Prop} {σ : AG Nd} {root : Int} {t : Tr}
theorem Pu (t:Tr) (k:List UInt8):t.Bx k≤t.leaves:=by have:=Iw t k;omega
theorem Oz (h:At w s F σ) (G:Good σ) (hr:Rep (sk σ) root 0 t) (h0:AX σ root=0) (a b:List UInt8) (ha:a.length=32) (hb:b.length=32) :
 Calls Tryz.prog 78 #[.pointer (some ⟨s,0,none⟩),.int .i64 root,.agg (AS a),.agg (AS b)] w fun e w'=>e=.returned (.tuple #[.int .i64 (t.JY a b),.int .i64 0])∧AN w w':=by
 obtain⟨A,hA⟩:∃A,A=AS a:=⟨_,rfl⟩
 obtain⟨B,hB⟩:∃B,B=AS b:=⟨_,rfl⟩
 have hAs:A.size=32:=by rw[hA,AU,ha]
 have hBs:B.size=32:=by rw[hB,AU,hb]
 have a0:AN w ((w.alloc (.cells A 47)).alloc (.cells B 47)):=((Ch.refl _ _).alloc _).alloc _;have g1:((w.alloc (.cells A 47)).alloc (.cells B 47)).heap[w.heap.size]?=some (.cells A 47 (0,0)):=AQ (heap_alloc_new _ _) _
 have g2:((w.alloc (.cells A 47)).alloc (.cells B 47)).heap[w.heap.size+1]?=some (.cells B 47 (0,0)):=by
  have:=heap_alloc_new (w.alloc (.cells A 47)) (.cells B 47);simpa using this
 obtain⟨Z,hZ⟩:∃Z,Z=AS (List.replicate 32 0):=⟨_,rfl⟩
 have hzh:=Ft;rw[←hZ] at hzh;have hZs:Z.size=32:=by rw[hZ];rfl
 have hrt:=fun w1 (x:AN w w1)=>Store.CU (h.adds x) root
 simp only[h0] at hrt;have hsz:=fun w1 (x:AN w w1)=>FU (h.adds x) root
 obtain⟨hs1,hs2⟩:=Bm h G hr;simp only[hs1] at hsz;have hra:=fun w1 (x:AN w w1)=>Ly (h.adds x) G hr a ha
 have hrn:=fun w1 (x:AN w w1)=>Ly (h.adds x) G hr (By b).1 (by rw[EM,hb])
 have hcm:=IV b a hb ha;have hnx:=Up b hb;obtain⟨N,hN⟩:∃N,N=AS (By b).1:=⟨_,rfl⟩
 have hNs:N.size=32:=by rw[hN,AU,EM,hb]
 have hN1:∀v∈N.toList,v.oneCell'=true:=by rw[hN];exact BO _
 rw[←hN] at hrn hnx;rw[←hA] at hra;rw[←hB] at hnx;rw[←hA, ←hB] at hcm;rw[←hA, ←hB];have l1:=Pu t a;have l2:=Pu t (By b).1;unfold Tr.JY Tr.DH;obtain⟨cv,hcv⟩:∃cv,cv=Lib.compareBytes b a:=⟨_,rfl⟩
 obtain⟨ra,hra'⟩:∃x,x=t.Bx a:=⟨_,rfl⟩
 obtain⟨rn,hrn'⟩:∃x,x=t.Bx (By b).1:=⟨_,rfl⟩
 obtain⟨lv,hlv⟩:∃x,x=t.leaves:=⟨_,rfl⟩
 obtain⟨nb,hnb⟩:∃x,x=(By b).2:=⟨_,rfl⟩
 rw[←hcv] at hcm ⊢;rw[←hra'] at hra l1 ⊢;rw[←hrn'] at hrn l2 ⊢;simp only[←hlv] at hsz;rw[←hlv] at l1 l2 hs2 ⊢;rw[←hnb] at hnx ⊢;obtain⟨res,hres⟩:∃res:Int,res=if cv<0 then 0 else ((if nb=true then rn else lv:Nat):Int)-(ra:Int):=⟨_,rfl⟩
 rw[←hres];have HRES:=Lib.hid hres;clear hres;have HR:=(hIq hrt (aIq hsz (aIq hra (aIq hrn (aIq hcm hnx)))))
 have HA:=(hIq hAs hBs)
 have HN:=(hIq hNs hN1)
 have HZ:=(hIq hzh hZs)
 have A0:=(hIq a0 (aIq g1 g2))
 have w1':wrap64 ((rn:Int)-(ra:Int))=(rn:Int)-(ra:Int):=by unfold wrap64;omega
 have w2':wrap64 ((lv:Int)-(ra:Int))=(lv:Int)-(ra:Int):=by unfold wrap64;omega
 clear h G hr h0 hA hB hAs hBs a0 g1 g2 hZ hzh hZs hrt hsz hs1 hra hrn hcm hnx hN hNs hN1 hcv hra' hrn' hlv hnb ha hb;go_enter Tryz.func78,Tryz.ntmps78;go_wp2_with fail;refine(HR.out.1 _ A0.out.1).mono ?_;rintro e x1 ⟨rfl,y1⟩;have A1:=(hIq (A0.out.1.trans y1 (fun _=>fEq)) (aIq (y1.row A0.out.2.1 id) (y1.row A0.out.2.2 id)))
 clear y1 A0
 go_wp2_with (first
  | fail
  | ((with_reducible show zOq (.load 47 _));refine AJ rfl 47 _ rfl w.heap.size 0 rfl A1.out.2.1 Tryz.underlying47 rfl Ab (by rw[HA.out.1];omega) A (by have:=HA.out.1;simp[←this]) ?_)
  | ((with_reducible show zOq (.load 47 _));refine AJ rfl 47 _ rfl (w.heap.size+1) 0 rfl A1.out.2.2 Tryz.underlying47 rfl Ab (by rw[HA.out.2];omega) B (by have:=HA.out.2;simp[←this]) ?_))
 refine(HR.out.2.2.2.2.1 _).mono ?_;rintro e x2 ⟨rfl,y2⟩;have A2:=(hIq (A1.out.1.trans y2 (fun _=>fEq)) (aIq (y2.row A1.out.2.1 id) (y2.row A1.out.2.2 id)))
 clear y2 A1;by_cases hlt:cv<0
 · have hfin:res=0:=by rw[HRES.out,if_pos hlt]
   subst hfin;have hd:decide (cv<0)=true:=decide_eq_true hlt;go_wp2_with fail;go_ret2;exact⟨rfl,A2.out.1⟩
 have hfin:=HRES.out;rw[if_neg hlt] at hfin;have HFIN:=Lib.hid hfin;clear hfin;have hd:decide (cv<0)=false:=decide_eq_false hlt;go_wp2_with fail;refine(HR.out.2.1 _ A2.out.1).mono ?_;rintro e x3 ⟨rfl,y3⟩;have A3:=(hIq (A2.out.1.trans y3 (fun _=>fEq)) (aIq (y3.row A2.out.2.1 id) (y3.row A2.out.2.2 id)))
 clear y3 A2
 go_wp2_with (first
  | fail
  | ((with_reducible show zOq (.load 47 _));refine AJ rfl 47 _ rfl (w.heap.size+1) 0 rfl A3.out.2.2 Tryz.underlying47 rfl Ab (by rw[HA.out.2];omega) B (by have:=HA.out.2;simp[←this]) ?_))
 refine(HR.out.2.2.2.2.2 _).mono ?_;rintro e x4 ⟨rfl,y4⟩;have A4:=(hIq (A3.out.1.trans y4 (fun _=>fEq)) (y4.row A3.out.2.1 id))
 obtain⟨x5,hx5⟩:∃x5,x5=(x4.alloc (.cells Z 47)).setRow x4.heap.size N:=⟨_,rfl⟩
 have y5:AN x4 x5:=by rw[hx5];exact((Ch.refl _ _).alloc _).setRow (.inr (Nat.le_refl _)) _
 have r5:x5.heap[x4.heap.size]?=some (.cells N 47 (0,0)):=by rw[hx5];exact AK (heap_alloc_new _ _) _
 have A5:=(hIq (A4.out.1.trans y5 (fun _=>fEq)) (aIq (y5.row A4.out.2 id) (aIq r5 hx5)))
 clear y4 A3 y5 r5 hx5;cases nb with
 | true =>
  go_upto_region 8 with(first
   | fail
   | ((with_reducible show zOq (.alloc 47));refine AO rfl 47 rfl (.agg Z) HZ.out.1 ?_;dsimp only[Value.cells];try simp only[World.size_alloc])
   | ((with_reducible show zOq (.store 47 _ _));refine AI rfl 47 _ _ rfl x4.heap.size 0 N rfl rfl (heap_alloc_new _ _) (by rw[Ab,HN.out.1]) (by rw[HN.out.1,HZ.out.2];omega) HN.out.2 N (by rw[AT _ _ (by rw[Array.length_toList,Array.length_toList,HN.out.1,HZ.out.2])]) ?_))
  rw[←A5.out.2.2.2]
  go_wp2_with (first
   | fail
   | ((with_reducible show zOq (.load 47 _));refine AJ rfl 47 _ rfl x4.heap.size 0 rfl A5.out.2.2.1 Tryz.underlying47 rfl Ab (by rw[HN.out.1];omega) N (by have:=HN.out.1;simp[←this]) ?_))
  refine(HR.out.2.2.2.1 _ A5.out.1).mono ?_;rintro e x6 ⟨rfl,y6⟩;have A6:=(hIq (A5.out.1.trans y6 (fun _=>fEq)) (y6.row A5.out.2.1 id))
  clear y6
  go_wp2_with (first
   | fail
   | ((with_reducible show zOq (.load 47 _));refine AJ rfl 47 _ rfl w.heap.size 0 rfl A6.out.2 Tryz.underlying47 rfl Ab (by rw[HA.out.1];omega) A (by have:=HA.out.1;simp[←this]) ?_))
  refine(HR.out.2.2.1 _ A6.out.1).mono ?_;rintro e x7 ⟨rfl,y7⟩;have A7:=Lib.hid (A6.out.1.trans y7 (fun _=>fEq));clear y7;go_wp2;go_ret2;have hf:res=(rn:Int)-(ra:Int):=by have:=HFIN.out;simpa using this
  exact⟨by rw[hf];first|rfl|rw[w1']|simp[w1'],A7.out⟩
 | false =>
  go_upto_region 8 with(first
   | fail
   | ((with_reducible show zOq (.alloc 47));refine AO rfl 47 rfl (.agg Z) HZ.out.1 ?_;dsimp only[Value.cells];try simp only[World.size_alloc])
   | ((with_reducible show zOq (.store 47 _ _));refine AI rfl 47 _ _ rfl x4.heap.size 0 N rfl rfl (heap_alloc_new _ _) (by rw[Ab,HN.out.1]) (by rw[HN.out.1,HZ.out.2];omega) HN.out.2 N (by rw[AT _ _ (by rw[Array.length_toList,Array.length_toList,HN.out.1,HZ.out.2])]) ?_))
  rw[←A5.out.2.2.2]
  go_wp2_with (first
   | fail
   | ((with_reducible show zOq (.load 47 _));refine AJ rfl 47 _ rfl w.heap.size 0 rfl A5.out.2.1 Tryz.underlying47 rfl Ab (by rw[HA.out.1];omega) A (by have:=HA.out.1;simp[←this]) ?_))
  refine(HR.out.2.2.1 _ A5.out.1).mono ?_;rintro e x7 ⟨rfl,y7⟩;have A7:=Lib.hid (A5.out.1.trans y7 (fun _=>fEq));clear y7;go_wp2;go_ret2;have hf:res=(lv:Int)-(ra:Int):=by have:=HFIN.out;simpa using this
  exact⟨by rw[hf];first|rfl|rw[w2']|simp[w2'],A7.out⟩
end
end Go.Proofs.YtngbdbpofifimaaGreat.Store
