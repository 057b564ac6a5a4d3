/- Laws of the layers below. -/
import Derived.Test.YtngbdbpofifimaaGreatQl27
set_option maxHeartbeats 3200000
set_option maxRecDepth 100000
set_option linter.unusedVariables false
namespace Go.Proofs.YtngbdbpofifimaaGreat.Store
open Go.RowKit Go.Sort Go.Proofs.YtngbdbpofifimaaGreat.ShaW Go.Proofs.YtngbdbpofifimaaGreat.Path Go.Proofs.YtngbdbpofifimaaGreat.Law9
def Tr.some (t:Tr) (key:List UInt8) (most:Int):AS:=if most<0 then t.from key else (t.from key).take most.toNat
def Ls (key:List UInt8) (ps:List (Int×Tr)):AS:=ps.flatMap fun p=>p.2.from key
def steps (ps:List (Int×Tr)):Nat:=(ps.map fun p=>2*p.2.nodes+1).sum
theorem FA (p:Int×Tr) (ps:List (Int×Tr)):steps (p::ps)=2*p.2.nodes+1+steps ps:=rfl
def Deep (f:View):List (Int×Tr)→Prop
 | []=>True
 | p::rest=>(∃d,rest.length≤d∧d≤256∧Rep f p.1 d p.2)∧Deep f rest
theorem Deep.small {f:View}:∀ {ps:List (Int×Tr)},Deep f ps→ps.length≤257
 | [],_=>by simp
 | p::rest,⟨⟨d,h1,h2,_⟩,_⟩=>by rw[List.length_cons];omega
def VF (out:List Pr):Prop:=out.Pairwise fun x y=>∀k,x.vv.ownBlock=some k→y.vv.ownBlock≠some k
structure Told (base:Nat) (w:World) (v:Value) (out:List Pr):Prop where
 row:EK w base v out
 vals:∀x∈out,x.key.length=32∧Bytes w x.vv x.val∧∀k,x.vv.ownBlock=some k→base≤k∧k<w.heap.size∧v.ownBlock≠some k
 apart:VF out
theorem Told.adds {base:Nat} {w w':World} {v:Value} {out:List Pr} (h:Told base w v out) (a:Adds w w'):Told base w' v out :=
 ⟨h.row.adds a,fun x hx=>by obtain⟨p,q,r⟩:=h.vals x hx;exact⟨p,q.Af a (fun _ _ h=>h),fun k hk=>⟨(r k hk).1,Nat.lt_of_lt_of_le (r k hk).2.1 a.size,(r k hk).2.2⟩⟩,h.apart⟩
theorem Told.good {base:Nat} {w:World} {v:Value} {out:List Pr} (h:Told base w v out):∀x∈out,x.Good w:=fun x hx=>by
 obtain⟨p,q,r⟩:=h.vals x hx;exact⟨p,q,fun _ k hk=>(r k hk).2.1⟩
structure EY (base:Nat) (wb wr:World) (v9 v10:Value) (out:List Pr) (st:List Int):Prop where
 told:Told base wr v9 out
 pile:wr.ownsRow base 3 1 v10 st.length (il st.reverse)
 one:∀k,v10.ownBlock=some k→v9.ownBlock≠some k∧∀x∈out,x.vv.ownBlock≠some k
 world:Adds wb wr
section
variable {base : Nat} {wb wr w' : World} {v9 v10 v' : Value} {out : List Pr} {st st' : List Int}
theorem EY.adds (h:EY base wb wr v9 v10 out st) (a:Adds wr w'):EY base wb w' v9 v10 out st :=
 ⟨h.told.adds a,a.owns h.pile (fun _ _ h=>h),h.one,h.world.trans a (fun _=>fEq)⟩
theorem EY.push (h:EY base wb wr v9 v10 out st) (hb:wb.heap.size≤base) {o:Obj} (ho:w'.ownsRow base 3 1 v' st'.length (il st'.reverse)) (hg:(wr.alloc o).grownBy w' v10.ownBlock)
 (hl:v'.ownBlock=v10.ownBlock∨v'.ownBlock=some (wr.alloc o).heap.size):EY base wb w' v9 v' out st':=by
 have hc:Ch (fun k=>v10.ownBlock=some k) wr w':=((Ch.refl _ _).alloc o).grown hg (fun k hk=>.inl hk);have hlt9:∀k,v9.ownBlock=some k→k<wr.heap.size:=fun k hk=>(h.told.row.lt k hk).2
 refine⟨⟨hc.owns h.told.row (fun k hk e=>(h.one k e).1 hk),fun x hx=>?_,h.told.apart⟩,ho,fun k hk=>?_,(h.world.alloc o).grown hg (fun k hk=>.inr (Nat.le_trans hb (h.pile.lt k hk).1))⟩
 · obtain⟨p,q,r⟩:=h.told.vals x hx
   exact⟨p,q.Af hc (fun k hk e=>(h.one k e).2 x hx hk),fun k hk=>⟨(r k hk).1,Nat.lt_of_lt_of_le (r k hk).2.1 hc.size,(r k hk).2.2⟩⟩
 rcases hl with e|e
 · rw[e] at hk
   exact h.one k hk
 rw[e] at hk;cases hk;refine⟨fun e9=>?_,fun x hx ex=>?_⟩
 · have:=hlt9 _ e9
   simp at this;omega
 have:=((h.told.vals x hx).2.2 _ ex).2.1;simp at this;omega
theorem EY.tell {w2:World} {x:Pr} (h:EY base wb wr v9 v10 out st) (hb:wb.heap.size≤base) (hbr:base≤wr.heap.size) (a:Adds wr w2) (hx:x.key.length=32) (hbx:Bytes w2 x.vv x.val) (hn:∀k,x.vv.ownBlock=some k→wr.heap.size≤k∧k<w2.heap.size) {o:Obj}
 (ho:w'.ownsRow 0 86 33 v' (out.length+1) (Bj out++x.cells.toList)) (hg:(w2.alloc o).grownBy w' v9.ownBlock) (hl:v'.ownBlock=v9.ownBlock∨∀k,v'.ownBlock=some k→(w2.alloc o).heap.size≤k):EY base wb w' v' v10 (out ++ [x]) st:=by
 have h2:=h.adds a;have hc:Ch (fun k=>v9.ownBlock=some k) w2 w':=((Ch.refl _ _).alloc o).grown hg (fun k hk=>.inl hk)
 have hbase:∀k,v'.ownBlock=some k→base≤k:=fun k hk=>by
  rcases hl with e|e
  · rw[e] at hk;exact(h.told.row.lt k hk).1
  have:=e k hk;have:=a.size;simp at *;omega
 have hrow:EK w' base v' (out ++ [x]):=by
  have hfl:Bj (out ++ [x])=Bj out++x.cells.toList:=by rw[Gd];simp[Bj]
  unfold EK;rw[hfl,List.length_append,List.length_singleton];exact ho.base hbase
 have h9old:∀k,v9.ownBlock=some k→k<wr.heap.size:=fun k hk=>(h.told.row.lt k hk).2
 have hv':∀k,v'.ownBlock=some k→(v9.ownBlock=some k)∨w2.heap.size<k+1:=fun k hk=>by
  rcases hl with e|e
  · exact .inl (by rw[←e];exact hk)
  have:=e k hk;simp at this;exact .inr (by omega)
 refine⟨⟨hrow,fun y hy=>?_,?_⟩,hc.owns h2.pile (fun k hk e=>(h.one k hk).1 e),fun k hk=>?_,(h2.world.alloc o).grown hg (fun k hk=>.inr (Nat.le_trans hb (h.told.row.lt k hk).1))⟩
 · rcases List.mem_append.1 hy with hy|hy
   · obtain⟨p,q,r⟩:=h2.told.vals y hy
     refine⟨p,q.Af hc (fun k hk e=>(r k hk).2.2 e),fun k hk=>⟨(r k hk).1,Nat.lt_of_lt_of_le (r k hk).2.1 hc.size,fun e=>?_⟩⟩;rcases hv' k e with e|e
     · exact(r k hk).2.2 e
     have:=(r k hk).2.1;omega
   obtain rfl:=List.mem_singleton.1 hy;refine⟨hx,hbx.Af hc (fun k hk e=>?_),fun k hk=>⟨Nat.le_trans hbr (hn k hk).1,Nat.lt_of_lt_of_le (hn k hk).2 hc.size,fun e=>?_⟩⟩
   · have:=h9old k e;have:=(hn k hk).1;omega
   rcases hv' k e with e|e
   · have:=h9old k e;have:=(hn k hk).1;omega
   have:=(hn k hk).2;omega
 · unfold VF
   rw[List.pairwise_append];refine⟨h.told.apart,List.pairwise_singleton _ _,fun a ha b hb k hk e=>?_⟩;obtain rfl:=List.mem_singleton.1 hb;have:=((h.told.vals a ha).2.2 k hk).2.1;have:=(hn k e).1;omega
 have hk10:=(h.pile.lt k hk).2;refine⟨fun e=>?_,fun y hy e=>?_⟩
 · rcases hv' k e with e|e
   · exact(h.one k hk).1 e
   have:=a.size;omega
 rcases List.mem_append.1 hy with hy|hy
 · exact(h.one k hk).2 y hy e
 obtain rfl:=List.mem_singleton.1 hy;have:=(hn k e).1;omega
end
theorem JI (T:Array Value) (ao:Option Addr) (n c:Nat) (hT:T.size=32):Tryz.prog.built 86 [(0,.agg T),(1,.slice ao n c)]=some (T++#[.slice ao n c]):=by
 obtain⟨i,h1,h2,h3,h4⟩:=info_parts (P:=Tryz.prog) (e:=86) (z:=.agg (List.replicate 32 (Value.int .u8 0) ++ [Value.slice none 0 0]).toArray) (size:=33) (bytes:=56) (by kernel_rfl);exact L0 h1 h2 Tryz.underlying86 (by kernel_rfl) (by rfl) (.agg T) (.slice ao n c) hT rfl
theorem XE {w:World} {s:Nat} {F:Nat→Prop} {σ:AD Nd} (h:At w s F σ) (G:Good σ) {root:Int} {t:Tr} (hr:Rep (sk σ) root 0 t) (key:List UInt8) (hk:key.length=32) (most:Int) :
 Calls Tryz.prog 86 #[.pointer (some ⟨s,0,none⟩),.int .i64 root,.agg (AK key),.int .i64 most] w fun e w'=>∃v out,e=.returned v∧Told w.heap.size w' v out∧out.map Pr.ent=t.some key most∧Adds w w':=by
 obtain⟨K,hK⟩:∃K,K=AK key:=⟨_,rfl⟩
 have hKs:K.size=32:=by rw[hK,AN,hk]
 rw[←hK]
 have hlen:(t.from key).length≤65536:=by
  have:=UW t key;have:=(DV h G hr).2;omega
 obtain⟨Z,hZ⟩:∃Z,Z=AK (List.replicate 32 0):=⟨_,rfl⟩
 have hzp:=Ef;rw[←hZ] at hzp;have hZs:Z.size=32:=by rw[hZ];rfl
 obtain⟨wb,hwb⟩:∃wb,wb=w.alloc (.cells K 47):=⟨_,rfl⟩
 have hab:Adds w wb:=by rw[hwb];exact(Ch.refl _ _).alloc _
 have hrb:wb.heap[w.heap.size]?=some (.cells K 47 (0,0)):=by rw[hwb];exact heap_alloc_new _ _
 obtain⟨b0,hb0⟩:∃b0,b0=w.heap.size:=⟨_,rfl⟩
 rw[←hb0] at hrb;obtain⟨base,hbase⟩:∃base,base=wb.heap.size:=⟨_,rfl⟩
 obtain⟨i1,hi,hz0,hz1,hz2⟩:=SlabN.Jh;obtain⟨i0,z0,p1,p2,p3,p4,p5⟩:=IS;have HI:=(hIq p1 (aIq p2 (aIq p3 (aIq p4 p5))))
 have HJ:=(hIq hi (aIq hz0 (aIq hz1 hz2)))
 have HAT:=Lib.hid (h.adds hab);have HG:=Lib.hid G;have HR:=(hIq hr hlen)
 have HK:=(hIq hK (aIq hKs hk))
 have HWB:=(hIq hwb hb0)
 have hsz0:wb.heap.size=b0+1:=by rw[hwb,hb0];simp
 have HB:=(hIq hab (aIq hrb (aIq hbase (aIq (show w.heap.size≤base by rw[hbase];exact hab.size) hsz0))))
 clear hsz0;have HZ:=(hIq hzp hZs)
 clear h G hr hK hKs hk hwb hab hrb hzp hZs hZ hlen hi hz0 hz1 hz2 p1 p2 p3 p4 p5 hbase;go_enter Tryz.func86,Tryz.ntmps86;go_wp2;rw[←HWB.out.1];rw[←HWB.out.2];clear hb0;go_loopg [9,10] (steps [(root,t)]) (fun g s9 s10 wr=>∃(ps:List (Int×Tr)) (out:List Pr),Deep (sk σ) ps∧g=steps ps∧out.map Pr.ent++Ls key ps=t.from key∧(0≤most→(out.length:Int)≤most)∧EY base wb wr s9 s10 out (ps.map (·.1)))
 case atStart =>
  refine⟨[(root,t)],[],⟨⟨0,Nat.le_refl _,by omega,HR.out.1⟩,trivial⟩,rfl,by simp[Ls],fun h=>h,?_⟩;refine⟨⟨EK.nil _ _,fun x hx=>(by cases hx),List.Pairwise.nil⟩,?_,fun k hk=>⟨fun e=>(by cases e),fun x hx=>(by cases hx)⟩,(Ch.refl _ _).alloc _⟩;have hnew:=heap_alloc_new wb (.cells #[.int .i64 root] 3);rw[HB.out.2.2.2.2] at hnew;exact(EA hnew (by decide) (by decide) rfl rfl).base (fun k hk=>by simp[Value.ownBlock] at hk;have:=HB.out.2.2.1;have:=HB.out.2.2.2.2;omega)
 obtain⟨ps,out,hdp,rfl,hfr,hmo,hst⟩:=hrel;obtain⟨o9,c9,rfl⟩:=hst.told.row.form;have hps:=hdp.small
 have hol:out.length≤65536:=by
  have h1:=congrArg List.length hfr;rw[List.length_append,List.length_map] at h1;have:=HR.out.2;omega
 have fin:(ps = []∨(0≤most∧(out.length:Int)=most))→Told w.heap.size wr (.slice o9 out.length c9) out∧out.map Pr.ent=t.some key most∧Adds w wr:=fun hend=>by
  refine⟨⟨(show EK _ _ _ _ from hst.told.row).base (fun k hk=>Nat.le_trans HB.out.2.2.2.1 (hst.told.row.lt k hk).1),fun x hx=>?_,hst.told.apart⟩,?_,HB.out.1.trans hst.world (fun _=>fEq)⟩
  · obtain⟨p,q,r⟩:=hst.told.vals x hx
    exact⟨p,q,fun k hk=>⟨Nat.le_trans HB.out.2.2.2.1 (r k hk).1,(r k hk).2⟩⟩
  unfold Tr.some;rcases hend with rfl|⟨h1,h2⟩
  · have hfr':out.map Pr.ent=t.from key:=by simpa[Ls] using hfr
    split
    · exact hfr'
    rw[←hfr',List.take_of_length_le];rw[List.length_map];have:=hmo (by omega);omega
  rw[if_neg (by omega), ←hfr,List.take_append_of_le_length (by rw[List.length_map];omega),List.take_of_length_le (by rw[List.length_map];omega)]
 have FIN:=Lib.hid fin;cases ps with
 | nil =>
  obtain⟨a10,c10,rfl⟩:=Aj hst.pile;have F0:=Lib.hid (fin (.inl rfl));clear fin hdp hfr hmo hst hps FIN;simp only[List.map_nil,List.length_nil];go_wp2;go_ret
  first
   | exact⟨_,out,rfl,F0.out⟩
   | exact⟨_,rfl,out,F0.out⟩
 | cons p rest =>
  obtain⟨h',t'⟩:=p;obtain⟨g,cap,cur,e10,hg1,hg2,hg3,hg4,hg5⟩:=Cs hst.pile (by simp);subst e10;by_cases hstop:0≤most∧(out.length:Int)=most
  · obtain⟨hm0,hme⟩:=hstop
    have f1:decide (most<0)=false:=decide_eq_false (by omega);have f2:decide ((out.length:Int)<most)=false:=decide_eq_false (by omega);have hl0:(0:Int)<((rest.length+1:Nat):Int):=by omega
    have hlst:(List.map (fun x:Int×Tr=>x.1) ((h',t')::rest)).length=rest.length+1:=by simp
    rw[hlst];have F0:=Lib.hid (fin (.inr ⟨hm0,hme⟩));clear fin hdp hfr hmo hst hg1 hg2 hg3 hg4 hg5 hm0 hme hlst hps FIN;go_wp2;go_ret
    first
     | exact⟨_,out,rfl,F0.out⟩
     | exact⟨_,rfl,out,F0.out⟩
  have hgo:most<0∨(out.length:Int)<most:=by
   by_cases h0:most<0
   · exact .inl h0
   right;have:=hmo (by omega);have:¬(out.length:Int)=most:=fun e=>hstop ⟨by omega,e⟩
   omega
  have hcell:wr.cell? ⟨g,rest.length,none⟩=some (.int .i64 h'):=AH hg1 (Dk hg5 (by simp[il]))
  have hst':EY base wb wr (.slice o9 out.length c9) (.slice (some ⟨g,0,none⟩) rest.length cap) out (rest.map (·.1)):=by
   refine⟨hst.told,?_,hst.one,hst.world⟩;rw[List.length_map];refine(EA (n:=rest.length) hg1 (by simp at hg2 ⊢;omega) hg3 hg4 ?_).base (fun k hk=>?_)
   · have:=congrArg (List.take (rest.length*1)) hg5
     rw[List.take_take,Nat.min_eq_left (by simp)] at this;rw[this];simp[il]
   cases hk;exact(hst.pile.lt g rfl).1
  obtain⟨⟨d',hd1,hd2,hd0⟩,hdr⟩:=hdp;have hd':Rep (sk σ) h' d' t':=hd0;clear hd0;have hAt:=HAT.out.adds hst.world;have hrow:=hst.world.row HB.out.2.1 id;have hkd:=E3 hAt h';have hky:=fun w1 (a:Adds wr w1)=>Key_ok (hAt.adds a) h'
  have hva:=fun w1 (a:Adds wr w1)=>Dh (hAt.adds a) h'
  have hdpt:=fun w1 (a:Adds wr w1)=>QO (hAt.adds a) h'
  have hsd:=fun w1 (a:Adds wr w1)=>IE (hAt.adds a) h'
  have hfr2:out.map Pr.ent++(t'.from key++Ls key rest)=t.from key:=hfr;have hwk:IntKind.i64.wrap (rest.length:Int)=rest.length:=IntWalk.i64_in _ (by simp at hps;omega);have hln:(List.map (fun x:Int×Tr=>x.1) ((h',t')::rest)).length=rest.length+1:=by simp
  rw[hln] at hg2 ⊢;have hrl:rest.length≤257:=by simp at hps;omega
  obtain⟨m,hm⟩:∃m,m=rest.length:=⟨_,rfl⟩
  rw[←hm] at hcell hwk hrl hg2 hst' ⊢;have hl0:(0:Int)<((m+1:Nat):Int):=by omega
  have hrl':(m:Int)≤257:=by omega
  have HM:=Lib.hid hm;have HS:=Lib.hid hst';have HROW:=Lib.hid hrow;have HD:=(hIq hdr (aIq hd1 (aIq hd2 hd')))
  have HFR:=Lib.hid hfr2;have HGO:=(hIq hgo (aIq hmo hol))
  clear fin hfr hmo hst hstop hg1 hg3 hg4 hg5 hst' hd1 hd2 hdr hAt hrow hfr2 hln hm hps FIN;go_upto_region 3 with fail;go_cut [31] (fun s31 wx=>s31=.bool true∧wx=wr)
  case first =>
   by_cases h0:most<0
   · have f1:decide (most<0)=true:=decide_eq_true h0
     clear h0;go_wp2;go_meet;exact⟨rfl,rfl⟩
   have f1:decide (most<0)=false:=decide_eq_false h0;have f2:decide ((out.length:Int)<most)=true:=decide_eq_true (by rcases HGO.out.1 with h|h;exact absurd h h0;exact h);clear h0;go_wp2;go_meet;exact⟨rfl,rfl⟩
  obtain⟨rfl,hwc⟩:=hcut;subst hwc;by_cases hx0:h'=0
  · subst hx0
    have ht0:=hd'.Ly HG.out.fit.zero;rw[show(nd σ 0).kind=0 from rfl] at hkd;have HKD:=Lib.hid hkd;have HT0:=Lib.hid ht0;clear hkd hky hva hdpt hsd hd' ht0;go_wp2_with fail;refine HKD.out.mono ?_;rintro e w1 ⟨rfl,a1⟩;have S1:=Lib.hid (HS.out.adds a1);clear a1 hcell;go_wp2_with fail;go_roundg (steps rest)
    case measure=>rw[FA];omega
    exact⟨rest,out,HD.out.1,rfl,by have:=HFR.out;rw[HT0.out] at this;exact this,HGO.out.2.1,S1.out⟩
  obtain⟨x,hx⟩:=hd'.live.resolve_left hx0;have hkl:x.key.length=32:=(HG.out.fit.all _ _ hx).key;obtain⟨q1,q2,q3,q4,q5,q6,q7⟩:=OK hx;rw[q2] at hkd;rw[q6] at hky;rw[q7] at hva;obtain⟨T,hT⟩:∃T,T=AK x.key:=⟨_,rfl⟩
  have hTs:T.size=32:=by rw[hT,AN,hkl]
  have hT1:∀v∈T.toList,v.oneCell'=true:=by rw[hT];exact Ae _
  have hcm:=Pq x.key key hkl HK.out.2.2;rw[←hT, ←HK.out.1] at hcm;rw[←hT] at hky;have HT:=(hIq hT (aIq hTs (aIq hT1 hkl)))
  have HKY:=Lib.hid hky;have HCM:=Lib.hid hcm;obtain⟨cv,hcv⟩:∃cv,cv=Lib.compareBytes x.key key:=⟨_,rfl⟩
  rw[←hcv] at HCM;clear hT hTs hT1 hky hcm hx0;by_cases hk2:x.kind=2
  · rw[hk2] at hkd
    have HKD:=Lib.hid hkd
    obtain⟨l,r,hdx,hl,hr,ht'⟩:∃l r,x.depth=(d':Nat)∧Rep (sk σ) x.left (d'+1) l∧Rep (sk σ) x.right (d'+1) r∧t'=.node l r:=by
     cases hd' with
     | nil=>rw[HG.out.fit.zero] at hx;cases hx
     | leaf hn' h1=>rw[hx] at hn';cases hn';omega
     | node hn' _ h2 hl hr=>rw[hx] at hn';cases hn';exact⟨_,_,h2,hl,hr,rfl⟩
    subst ht';have hd1:=(HG.out.fit.inner hx hk2).d1;have hd255:d'≤255:=by omega
    rw[show depth σ h'=(d':Int) by unfold depth;rw[q1,if_pos rfl,q3,hdx]] at hdpt;obtain⟨nl,hnl⟩:∃nl,nl=x.left:=⟨_,rfl⟩
    obtain⟨nr,hnr⟩:∃nr,nr=x.right:=⟨_,rfl⟩
    rw[q4,q5, ←hnl, ←hnr] at hsd;rw[←hnl] at hl;rw[←hnr] at hr;have hla:=Path.XC x.key hkl (d':Int) (by omega);have hll:(last x.key (d':Int)).length=32:=by rw[D4,hkl]
    have hcl:=Pq (last x.key (d':Int)) key hll HK.out.2.2
    have hdrop:Lib.compareBytes (last x.key (d':Int)) key<0→(Tr.node l r).from key = []:=fun hlt=>by
     refine T9 fun e he=>?_
     obtain⟨e1,e2,_⟩:=hd'.ents HG.out.fit;have hp:=(e2 x hx e he).1 hk2;have hge:=Xa (by rw[(e1 e he).1,hkl]) hp;by_cases h:Lib.compareBytes e.1 key<0
     · exact h
     exact absurd hlt (Et _ _ _ hge h)
    obtain⟨U,hU⟩:∃U,U=AK (last x.key (d':Int)):=⟨_,rfl⟩
    have hUs:U.size=32:=by rw[hU,AN,hll]
    have hU1:∀v∈U.toList,v.oneCell'=true:=by rw[hU];exact Ae _
    rw[←HT.out.1, ←hU] at hla;rw[←hU, ←HK.out.1] at hcl;obtain⟨cl,hcl2⟩:∃cl,cl=Lib.compareBytes (last x.key (d':Int)) key:=⟨_,rfl⟩
    rw[←hcl2] at hcl hdrop;have HDP:=Lib.hid hdpt;have HLA:=Lib.hid hla;have HCL:=Lib.hid hcl;have HDR:=Lib.hid hdrop;have HU:=(hIq hUs hU1)
    have HSD:=Lib.hid hsd;have HLR:=(hIq hl hr)
    clear hdpt hkd hla hcl hcl2 hdrop hU hUs hU1 hsd hl hr hnl hnr hll hx q1 q2 q3 q4 q5 q6 q7 hva hcv hd' hd1 hdx hk2;go_wp2_with fail;refine HKD.out.mono ?_;rintro e w1 ⟨rfl,a1⟩;have A1:=Lib.hid a1;clear a1 hcell;go_wp2_with fail;refine(HKY.out _ A1.out).mono ?_;rintro e w2 ⟨rfl,a2⟩;have A2:=Lib.hid (A1.out.trans a2 (fun _=>fEq));clear a2 A1;go_wp2_with fail;refine(HDP.out _ A2.out).mono ?_;rintro e w3 ⟨rfl,a3⟩;have A3:=Lib.hid (A2.out.trans a3 (fun _=>fEq));clear a3 A2;go_wp2_with fail;refine(HLA.out _).mono ?_;rintro e w4 ⟨rfl,a4⟩;have A4:=Lib.hid (A3.out.trans a4 (fun _=>fEq));clear a4 A3;obtain⟨w5,hw5⟩:∃w5,w5=(w4.alloc (.cells Z 47)).setRow w4.heap.size U:=⟨_,rfl⟩
    have r5:w5.heap[w4.heap.size]?=some (.cells U 47 (0,0)):=by rw[hw5];exact AF (heap_alloc_new _ _) _
    have a5:Adds wc w5:=by rw[hw5];exact(A4.out.alloc _).setRow (.inr A4.out.size) _
    have k5:=a5.row HROW.out id;have R5:=(hIq r5 (aIq a5 k5))
    have HW5:=Lib.hid hw5;clear hw5 r5 a5 k5
    go_upto_region 13 with(first
     | fail
     | ((with_reducible show zOq (.alloc 47));refine AI rfl 47 rfl (.agg Z) HZ.out.1 ?_;dsimp only[Value.cells];try simp only[World.size_alloc])
     | ((with_reducible show zOq (.store 47 _ _));refine AE rfl 47 _ _ rfl w4.heap.size 0 U rfl rfl (heap_alloc_new _ _) (by rw[AY,HU.out.1]) (by rw[HU.out.1,HZ.out.2];omega) HU.out.2 U (by rw[AJ _ _ (by rw[Array.length_toList,Array.length_toList,HU.out.1,HZ.out.2])]) ?_))
    rw[←HW5.out]
    go_wp2_with (first
     | fail
     | ((with_reducible show zOq (.load 47 _));refine AG rfl 47 _ rfl w4.heap.size 0 rfl R5.out.1 Tryz.underlying47 rfl AY (by rw[HU.out.1];omega) U (by have:=HU.out.1;simp[←this]) ?_)
     | ((with_reducible show zOq (.load 47 _));refine AG rfl 47 _ rfl b0 0 rfl R5.out.2.2 Tryz.underlying47 rfl AY (by rw[HK.out.2.1];omega) K (by have:=HK.out.2.1;simp[←this]) ?_))
    refine(HCL.out _).mono ?_;rintro e w6 ⟨rfl,a6⟩;have A6:=Lib.hid (R5.out.2.1.trans a6 (fun _=>fEq));clear a6;by_cases hcl0:cl<0
    · have f3:decide (0≤cl)=false:=decide_eq_false (by omega)
      have hdr:=HDR.out hcl0;have HDR2:=Lib.hid hdr;have S6:=Lib.hid (HS.out.adds A6.out);clear hdr hcl0;go_wp2_with fail;go_roundg (steps rest)
      case measure=>rw[FA];omega
      exact⟨rest,out,HD.out.1,rfl,by have:=HFR.out;rw[HDR2.out] at this;exact this,HGO.out.2.1,S6.out⟩
    have f3:decide (0≤cl)=true:=decide_eq_true (by omega);clear hcl0;go_wp2_with fail;refine(HSD.out _ A6.out).mono ?_;rintro e w7 ⟨rfl,a7⟩;have S7:=Lib.hid (HS.out.adds (A6.out.trans a7 (fun _=>fEq)));have hw7:=S7.out.world.size;have hpl:=S7.out.pile
    have hpl2:w7.ownsRow base 3 1 (.slice (some ⟨g,0,none⟩) m cap) m (il (rest.map (·.1)).reverse):=by
     rw[List.length_map, ←HM.out] at hpl;exact hpl
    have HPL:=Lib.hid hpl2;have HW7:=Lib.hid hw7;clear a7 hw7 hpl hpl2
    go_wp2_with (first
     | (at_builtin;refine wpList_append_own_at _ rfl _ _ 61 rfl base 3 i1 (.int .i64 0) 1 8 Tryz.underlying61 HJ.out.1 HJ.out.2.1 HJ.out.2.2.1 HJ.out.2.2.2 rfl (by decide) _ _ _ rfl (HPL.out.alloc _) ⟨w7.heap.size,0,none⟩ 2 2 [.int .i64 nr,.int .i64 nl] rfl rfl (Cc (heap_alloc_new w7 (.cells #[.int .i64 nr,.int .i64 nl] 3))) (by simp[Value.oneCell']) (by unfold maxLen;omega) (by omega) (by have:=HW7.out;have:=HB.out.2.2.1;simp;omega) ?_;intro v' w8 hown8 hgrow8 hnil8 hloc8))
    have hS8:EY base wb w8 (.slice o9 out.length c9) v' out (((nl,l)::(nr,r)::rest).map (·.1)):=by
     refine S7.out.push (by have:=HB.out.2.2.1;omega) ?_ hgrow8 hloc8;have e:(((nl,l)::(nr,r)::rest).map (fun x:Int×Tr=>x.1)).length=m+2:=by rw[List.length_map,HM.out];rfl
     rw[e];simpa[il] using hown8
    have S8:=Lib.hid hS8;clear hown8 hgrow8 hnil8 hloc8 hS8;go_roundg (steps ((nl,l)::(nr,r)::rest))
    case measure=>simp only[FA,Tr.nodes];omega
    have hh:=HD.out.2.1;have hh2:=HD.out.2.2.1;refine⟨(nl,l)::(nr,r)::rest,out,⟨⟨d'+1,by rw[List.length_cons];omega,by omega,HLR.out.1⟩,⟨⟨d'+1,by omega,by omega,HLR.out.2⟩,HD.out.1⟩⟩,rfl,?_,HGO.out.2.1,S8.out⟩;have:=HFR.out;rw[Tr.Sx] at this;simpa[Ls] using this
  have hk1:=(HG.out.fit.leaf hx hk2).1;rw[hk1] at hkd;have HKD:=Lib.hid hkd
  have hul:t'=.leaf x.key x.value:=by
   cases hd' with
   | nil=>rw[HG.out.fit.zero] at hx;cases hx
   | leaf hn' h1=>rw[hx] at hn';cases hn';rfl
   | node hn' h1 _ _ _=>rw[hx] at hn';cases hn';omega
  have hfk:t'.from key=if cv<0 then [] else [(x.key,x.value)]:=by
   rw[hul,hcv];unfold Tr.from Tr.ents geK;by_cases hlt:Lib.compareBytes x.key key<0<;>simp[hlt]
  obtain⟨bs,hbs⟩:∃bs,bs=x.value:=⟨_,rfl⟩
  rw[←hbs] at hva hfk;have HFK:=Lib.hid hfk;have HVA:=Lib.hid hva;clear hkd hul hcv hfk hbs hva hdpt hsd hx q1 q2 q3 q4 q5 q6 q7 hk1 hk2 hd';go_wp2_with fail;refine HKD.out.mono ?_;rintro e w1 ⟨rfl,a1⟩;have A1:=Lib.hid a1;clear a1 hcell;go_wp2_with fail;refine(HKY.out _ A1.out).mono ?_;rintro e w2 ⟨rfl,a2⟩;have A2:=Lib.hid (A1.out.trans a2 (fun _=>fEq));clear a2 A1;obtain⟨w5,hw5⟩:∃w5,w5=(w2.alloc (.cells Z 47)).setRow w2.heap.size T:=⟨_,rfl⟩
  have r5:w5.heap[w2.heap.size]?=some (.cells T 47 (0,0)):=by rw[hw5];exact AF (heap_alloc_new _ _) _
  have a5:Adds wc w5:=by rw[hw5];exact(A2.out.alloc _).setRow (.inr A2.out.size) _
  have k5:=a5.row HROW.out id;have R5:=(hIq r5 (aIq a5 k5))
  have HW5:=Lib.hid hw5;clear hw5 r5 a5 k5
  go_upto_region 9 with(first
   | fail
   | ((with_reducible show zOq (.alloc 47));refine AI rfl 47 rfl (.agg Z) HZ.out.1 ?_;dsimp only[Value.cells];try simp only[World.size_alloc])
   | ((with_reducible show zOq (.store 47 _ _));refine AE rfl 47 _ _ rfl w2.heap.size 0 T rfl rfl (heap_alloc_new _ _) (by rw[AY,HT.out.2.1]) (by rw[HT.out.2.1,HZ.out.2];omega) HT.out.2.2.1 T (by rw[AJ _ _ (by rw[Array.length_toList,Array.length_toList,HT.out.2.1,HZ.out.2])]) ?_))
  rw[←HW5.out]
  go_wp2_with (first
   | fail
   | ((with_reducible show zOq (.load 47 _));refine AG rfl 47 _ rfl w2.heap.size 0 rfl R5.out.1 Tryz.underlying47 rfl AY (by rw[HT.out.2.1];omega) T (by have:=HT.out.2.1;simp[←this]) ?_)
   | ((with_reducible show zOq (.load 47 _));refine AG rfl 47 _ rfl b0 0 rfl R5.out.2.2 Tryz.underlying47 rfl AY (by rw[HK.out.2.1];omega) K (by have:=HK.out.2.1;simp[←this]) ?_))
  refine(HCM.out _).mono ?_;rintro e w6 ⟨rfl,a6⟩;have A6:=(hIq (R5.out.2.1.trans a6 (fun _=>fEq)) (a6.row R5.out.1 id))
  clear a6;obtain⟨B,hB⟩:∃B,B=w2.heap.size:=⟨_,rfl⟩
  have hBw:wc.heap.size≤B:=by rw[hB];exact A2.out.size
  rw[←hB] at A6 ⊢;have HBW:=Lib.hid hBw;clear hB hBw;by_cases hlt:cv<0
  · have f3:decide (0≤cv)=false:=decide_eq_false (by omega)
    have hfk:=HFK.out;rw[if_pos hlt] at hfk;have HFK2:=Lib.hid hfk;have S6:=Lib.hid (HS.out.adds A6.out.1);clear hfk hlt;go_wp2_with fail;go_roundg (steps rest)
    case measure=>rw[FA];omega
    exact⟨rest,out,HD.out.1,rfl,by have:=HFR.out;rw[HFK2.out] at this;exact this,HGO.out.2.1,S6.out⟩
  have f3:decide (0≤cv)=true:=decide_eq_true (by omega);have hfk:=HFK.out;rw[if_neg hlt] at hfk;have HFK2:=Lib.hid hfk;clear hfk hlt;go_wp2;refine AO (fun w0=>w0.heap[B]?=some (.cells T 47 (0,0))) 9 [(0,false),(1,false),(2,false),(3,false),(4,true),(5,false),(6,true),(7,true),(8,false)] (by kernel_rfl) (by kernel_rfl) ?_ ?_
  · exact AP A6.out.2
  refine plan_look rfl rfl (fun w0 hS=>(by clear hS;go_simp;try rfl)) ?_;simp only[Act.put,nAq,nBq,nCq];refine Ah (cur:=T) (t:=47) (fr:=(0,0)) rfl rfl 47 _ rfl B 0 32 rfl (fun w0 hS=>hS) Tryz.underlying47 rfl AY (by rw[HT.out.2.1];omega) T (by have:=HT.out.2.1;simp[←this]) ?_;simp only[Act.put,nAq,nBq,nCq]
  iterate 2
   refine plan_look rfl rfl (fun w0 hS=>(by clear hS;go_simp;try rfl)) ?_;simp only[Act.put,nAq,nBq,nCq]
  refine AV rfl ?_;go_wp2_with fail;refine(HVA.out _ A6.out.1.drew).mono ?_;rintro e w7 ⟨v7,rfl,hb7,hv7,a7⟩;have hr7:=a7.row (AP A6.out.2) id;obtain⟨vo,vcap,rfl,_⟩:=hb7.form;have H7:=(hIq hb7 (aIq hv7 (aIq (A6.out.1.drew.trans a7 (fun _=>fEq)) hr7)))
  have H7b:=Lib.hid a7;clear hb7 hv7 a7 hr7;obtain⟨bn,hbn⟩:∃bn,bn=bs.length:=⟨_,rfl⟩
  rw[←hbn] at H7 ⊢;have HBN:=Lib.hid hbn;clear hbn;dsimp only;go_step;refine wpList_nil ?_;change _∧_;refine⟨H7.out.2.2.2,?_⟩;obtain⟨C,hC⟩:∃C,C=T++#[Value.slice vo bn vcap]:=⟨_,rfl⟩
  have hpb:=JI T vo bn vcap HT.out.2.1;rw[←hC] at hpb
  have hCx:C=(Pr.mk x.key (.slice vo bn vcap) bs).cells:=by
   rw[hC,HT.out.1];apply Array.ext';simp[Pr.cells,AK]
  have hCs:C.size=33:=by rw[hC,Array.size_append,HT.out.2.1];rfl
  have hC1:∀v∈C.toList,v.oneCell'=true:=fun v hv=>by
   rw[hC,Array.toList_append,List.mem_append] at hv;rcases hv with hv|hv
   · exact HT.out.2.2.1 v hv
   obtain rfl:=List.mem_singleton.1 hv;rfl
  have HC:=(hIq hCx (aIq hCs (aIq hC1 hpb)))
  clear hC hpb hCx hCs hC1;refine DN rfl rfl 86 0 1 _ _ rfl (.agg T) (.slice vo bn vcap) rfl rfl C HC.out.2.2.2 ?_;simp only[Act.put,nAq,nBq,nCq];refine AV rfl ?_
  go_wp2_with (first
   | fail
   | ((with_reducible show zOq (.buildSlice 56 _ _));refine As rfl 56 _ rfl 86 i0 z0 (.agg C) rfl Tryz.underlying56 HI.out.1 HI.out.2.1 (by rw[HI.out.2.2.1];decide) (by rw[HI.out.2.2.1];decide) (by rw[HI.out.2.2.1];exact HC.out.2.1) ?_))
  refine⟨AM H7.out.2.2.2 _,?_⟩;refine AV rfl ?_
  go_wp2_with (first
   | fail
   | (at_builtin;refine Ak rfl _ _ 56 rfl 86 i0 z0 33 56 Tryz.underlying56 HI.out.1 HI.out.2.1 HI.out.2.2.1 HI.out.2.2.2.1 HI.out.2.2.2.2 (by decide) (.slice o9 out.length c9) out.length (Bj out) rfl (((HS.out.told.row.adds H7.out.2.2.1).alloc _).base (fun _ _=>Nat.zero_le _)) ⟨w7.heap.size,0,none⟩ 1 1 C.toList rfl (by rw[Array.length_toList,HC.out.2.1]) (Cc (heap_alloc_new w7 (.cells C 86))) HC.out.2.2.1 (by unfold maxLen;omega) (by omega) ?_;intro v' w8 own' grow' loc'))
  have hB8:w8.heap[B]?=some (.cells T 47 (0,0)):=by
   refine(grow'.block B ?_ ?_).trans (AM H7.out.2.2.2 _)
   · have:=Ac H7.out.2.2.2;simp;omega
   intro e;have:=(HS.out.told.row.lt B e.symm).2;have:=HBW.out;omega
  have hS8:EY base wb w8 v' (.slice (some ⟨g,0,none⟩) m cap) (out ++ [Pr.mk x.key (.slice vo bn vcap) bs]) (rest.map (·.1)):=by
   refine HS.out.tell (by have:=HB.out.2.2.1;omega) (by have:=HB.out.2.2.1;have:=HS.out.world.size;omega) H7.out.2.2.1 HT.out.2.2.2 (by exact H7.out.1) (fun k hk=>?_) (by rw[←HC.out.1];exact own') grow' loc';obtain⟨p,q⟩:=H7.out.2.1 k hk;have:=A6.out.1.size;simp at p;exact⟨by omega,q⟩
  have S8:=(hIq hB8 hS8)
  clear own' grow' loc' hB8 hS8;refine⟨S8.out.1,?_⟩;refine plan_look rfl rfl (fun w0 hS=>(by clear hS;go_simp;try rfl)) ?_;simp only[Act.put,nAq,nBq,nCq];refine AZ ?_;simp only[List.drop_succ_cons,List.drop_zero];go_wp2;refine NoPanic.normal ?_;obtain⟨o8,c8,hv8⟩:=S8.out.2.told.row.form;rw[List.length_append,List.length_singleton] at hv8;subst hv8;go_wp2_with fail;go_roundg (steps rest)
  case measure=>rw[FA];omega
  refine⟨rest,out ++ [Pr.mk x.key (.slice vo bn vcap) bs],HD.out.1,rfl,?_,fun h0=>?_,S8.out.2⟩
  · have:=HFR.out
    rw[HFK2.out] at this;rw[List.map_append,List.append_assoc];exact this
  rw[List.length_append,List.length_singleton];have:=HGO.out.1;omega
section
variable {w : World} {s : Nat} {F : Nat→Prop} {σ : AD Nd} {root : Int} {t : Tr}
theorem T6 (h:At w s F σ) (G:Good σ) (hr:Rep (sk σ) root 0 t) (h0:BS σ root=0) :
 Calls Tryz.prog 72 #[.pointer (some ⟨s,0,none⟩),.int .i64 root] w fun e w'=>e=.returned (.tuple #[.int .i64 (t.leaves:Nat),.int .i64 0])∧Adds w w':=by
 have hrt:=Store.Eb h root;rw[h0] at hrt;have hsz:=fun w1 (a:Adds w w1)=>YS (h.adds a) root
 rw[(DV h G hr).1] at hsz;have HR:=Lib.hid hrt;have HS:=Lib.hid hsz;clear h G hr h0 hrt hsz;go_enter Tryz.func72,Tryz.ntmps72;go_wp2_with fail;refine HR.out.mono ?_;rintro e w1 ⟨rfl,a1⟩;have A1:=Lib.hid a1;clear a1;go_wp2_with fail;refine(HS.out _ A1.out).mono ?_;rintro e w2 ⟨rfl,a2⟩;have A2:=Lib.hid (A1.out.trans a2 (fun _=>fEq));clear a2;go_wp2_with fail;go_ret2;exact⟨rfl,A2.out⟩
theorem YE (w:World) (K:Array Value):(w.alloc (.cells K 47)).heap[w.heap.size]?=some (.cells K 47 (0,0)):=heap_alloc_new _ _
theorem Xj (h:At w s F σ) (G:Good σ) (hr:Rep (sk σ) root 0 t) (h0:BS σ root=0) (key:List UInt8) (hk:key.length=32) (most:Int) (hm:0≤most∧most≤256) :
 Calls Tryz.prog 26 #[.pointer (some ⟨s,0,none⟩),.int .i64 root,.agg (AK key),.int .i64 most] w fun e w'=>∃v out,e=.returned (.tuple #[v,.int .i64 0])∧Told w.heap.size w' v out∧out.map Pr.ent=(t.from key).take most.toNat∧Adds w w':=by
 obtain⟨K,hK⟩:∃K,K=AK key:=⟨_,rfl⟩
 have hKs:K.size=32:=by rw[hK,AN,hk]
 have ha:Adds w (w.alloc (.cells K 47)):=(Ch.refl _ _).alloc _;have hrt:=Store.Eb (h.adds ha) root;rw[h0] at hrt;have hrk:=fun w1 (a:Adds w w1)=>XE (h.adds a) G hr key hk most
 rw[show t.some key most=(t.from key).take most.toNat by unfold Tr.some;rw[if_neg (by omega)]] at hrk;rw[←hK] at hrk ⊢;have HR:=Lib.hid hrt;have HS:=Lib.hid hrk;have HK:=Lib.hid hKs;have HA:=Lib.hid ha;have f1:decide (most<0)=false:=decide_eq_false (by omega);have f2:decide (256<most)=false:=decide_eq_false (by omega);clear h G hr h0 hrt hrk hK hKs hk ha hm;go_enter Tryz.func26,Tryz.ntmps26;go_wp2_with fail;refine HR.out.mono ?_;rintro e w1 ⟨rfl,a1⟩;have A1:=(hIq (HA.out.trans a1 (fun _=>fEq)) (a1.row (YE w K) id))
 clear a1
 go_wp2_with (first
  | fail
  | ((with_reducible show zOq (.load 47 _));refine AG rfl 47 _ rfl w.heap.size 0 rfl A1.out.2 Tryz.underlying47 rfl AY (by rw[HK.out];omega) K (by have:=HK.out;simp[←this]) ?_))
 refine(HS.out _ A1.out.1).mono ?_;rintro e w2 ⟨v,out,rfl,ht,he,a2⟩;obtain⟨vo,vc,rfl⟩:=ht.row.form;have A2:=(hIq ht (aIq he (aIq (A1.out.1.trans a2 (fun _=>fEq)) A1.out.1.size)))
 clear a2 ht he;go_wp2_with fail;go_ret2;have ht:=A2.out.1;have tt:Told w.heap.size w2 (.slice vo out.length vc) out:=⟨(show EK _ _ _ _ from ht.row).base (fun k hk=>Nat.le_trans A2.out.2.2.2 (ht.row.lt k hk).1),fun x hx=>by obtain⟨p,q,r⟩:=ht.vals x hx;exact⟨p,q,fun k hk=>⟨Nat.le_trans A2.out.2.2.2 (r k hk).1,(r k hk).2⟩⟩,ht.apart⟩
 first
  | exact⟨_,out,rfl,tt,A2.out.2.1,A2.out.2.2.1⟩
  | exact⟨_,rfl,out,tt,A2.out.2.1,A2.out.2.2.1⟩
theorem Wj (h:At w s F σ) (h0:BS σ root=0) (K:Array Value) (most:Int) (hm:most<0∨256<most) :
 Calls Tryz.prog 26 #[.pointer (some ⟨s,0,none⟩),.int .i64 root,.agg K,.int .i64 most] w fun e w'=>e=.returned (.tuple #[.slice none 0 0,.int .i64 2])∧Adds w w':=by
 have ha:Adds w (w.alloc (.cells K 47)):=(Ch.refl _ _).alloc _;have hrt:=Store.Eb (h.adds ha) root;rw[h0] at hrt;have HR:=Lib.hid hrt;have HA:=Lib.hid ha;by_cases hm0:most<0
 · have f1:decide (most<0)=true:=decide_eq_true hm0
   clear h h0 hrt ha hm hm0;go_enter Tryz.func26,Tryz.ntmps26;go_wp2_with fail;refine HR.out.mono ?_;rintro e w1 ⟨rfl,a1⟩;have A1:=Lib.hid (HA.out.trans a1 (fun _=>fEq));clear a1;go_wp2_with fail;go_ret2;exact⟨rfl,A1.out⟩
 have f1:decide (most<0)=false:=decide_eq_false hm0;have f2:decide (256<most)=true:=decide_eq_true (by omega);clear h h0 hrt ha hm hm0;go_enter Tryz.func26,Tryz.ntmps26;go_wp2_with fail;refine HR.out.mono ?_;rintro e w1 ⟨rfl,a1⟩;have A1:=Lib.hid (HA.out.trans a1 (fun _=>fEq));clear a1;go_wp2_with fail;go_ret2;exact⟨rfl,A1.out⟩
end
def Tr.EM (t:Tr) (b:List UInt8):Nat:=if (M0 b).2=true then t.Dj (M0 b).1 else t.leaves

end Go.Proofs.YtngbdbpofifimaaGreat.Store
