/- Laws of the layers below. -/
import Derived.Test.YtngbdbpofifimaaGreatQl29
import Derived.Shelf.Sort.Plain
import Derived.Shelf.Slices.In.SortNone2
import Derived.Sort.OwnSortedInts
set_option maxHeartbeats 3200000
set_option maxRecDepth 100000
set_option linter.unusedVariables false
namespace Go.Proofs.YtngbdbpofifimaaGreat.Law9
open Go.RowKit Go.Sort Go.Proofs.YtngbdbpofifimaaGreat.ShaW Go.Proofs.YtngbdbpofifimaaGreat.Path Go.Proofs.YtngbdbpofifimaaGreat.Store
theorem AS.Ok.aQ {L L':AS} {k:List UInt8} {d:Nat} (h:AS.Ok L k d) (p:L'.Perm L):AS.Ok L' k d :=
 ⟨(p.map (fun q:List UInt8×List UInt8=>q.1)).nodup_iff.2 h.nodup,fun q hq=>h.len q (p.mem_iff.1 hq),fun q hq=>h.pre q (p.mem_iff.1 hq)⟩
theorem RP {e:Option (List UInt8×List UInt8)} {L:AS} (h:L = []∨∃p,L = [p]∧e=some p) (W:Wps):Bx e (CT L W)≤W.length:=by
 have h1:Bx e (L.filter fun p => !decide (p.1∈Fq W))=0:=by
  unfold Bx;rw[List.countP_eq_zero];intro q hq;have hq:=(List.mem_filter.1 hq).1;rcases h with rfl|⟨p,rfl,rfl⟩
  · cases hq
  rw[List.mem_singleton.1 hq];simp
 have h2:Bx e (FZ W)≤W.length:=Nat.le_trans (Lp e _) (List.length_filterMap_le _ _);unfold CT;unfold Bx at *;rw[List.countP_append];omega
structure BuOk (G:Nat→Prop) (w:World) (σ:AD Nd) (la:Option Addr) (cap:Nat) (l:List Wm) (old:Int) (k:List UInt8) (d:Nat) (L:AS):Prop where
 row:WmsG G w la l
 cap:l.length≤cap∨l = []
 few:l.length≤100
 key:k.length=32
 ok:AS.Ok (l.map Wm.ent) k d
 rise:C8 (l.map Wm.ent)
 val:∀x∈l,x.gone=false→x.val.length≤1024
 lok:AS.Ok L k d
 pre:∀y,sk σ old=some y→Pre y.key k d
 rep:Rep (sk σ) old d (tree (256-d) L)
 room:Store.live σ+(257-d)*l.length≤σ.room
 total:Store.total σ+3*((257-d)*l.length)+300<1073741824
theorem Qw {l:List Wm} {k:List UInt8} {d:Nat} (h:AS.Ok (l.map Wm.ent) k d) (hv:∀x∈l,x.gone=false→x.val.length≤1024):WOk (l.map Wm.wp) k d:=by
 refine⟨?_,fun p hp=>?_,fun p hp=>?_,fun p hp v hv2=>?_⟩
 · rw[SB]
   have:=h.nodup
   rwa [show keysOf (l.map Wm.ent)=l.map (·.key) by simp[keysOf,Wm.ent]] at this
 · obtain⟨x,hx,rfl⟩:=List.mem_map.1 hp
   exact h.len x.ent (List.mem_map_of_mem hx)
 · obtain⟨x,hx,rfl⟩:=List.mem_map.1 hp
   exact h.pre x.ent (List.mem_map_of_mem hx)
 obtain⟨x,hx,rfl⟩:=List.mem_map.1 hp;unfold Wm.wp at hv2;by_cases hg:x.gone=true
 · rw[if_pos hg] at hv2;cases hv2
 rw[if_neg hg] at hv2;injection hv2 with hv2;rw[←hv2];exact hv x hx (by simpa using hg)
theorem VQ {σ:AD Nd} (G:Store.Good σ) {old:Int} {d:Nat} (hd:d≤256) {L:AS} {k:List UInt8} (hL:AS.Ok L k d) (hr:Rep (sk σ) old d (tree (256-d) L)) (hk:(nd σ old).kind≠2) :
 (L = []∧(nd σ old).kind=0∧old=0)∨(∃x,sk σ old=some x∧x.kind=1∧L = [(x.key,x.value)]∧x.key.length=32∧x.value.length≤1024):=by
 have hz:=G.fit.zero;have hn:¬(tree (256-d) L).isNode=true:=fun e=>hk ((GB hz hr).2 e)
 have hlen:¬2≤L.length:=fun e=>hn ((Ed (m:=256-d) (by rw[show 256-(256-d)=d by omega];exact hL)).2 e)
 match L,hlen,hr,hL with
 | [],_,hr,_ =>
  rw[CD] at hr;have:=(hr.Hv hz).2 rfl;exact .inl ⟨rfl,by rw[this];rfl,this⟩
 | [p],_,hr,hL =>
  rw[BU] at hr;right;generalize ht:Tr.leaf p.1 p.2=t at hr;cases hr with
  | nil=>cases ht
  | node _ _ _ _ _=>cases ht
  | @leaf _ _ x hx h1 =>
   injection ht with e1 e2;have hlo:=(G.fit.leaf hx (by omega)).2;exact⟨x,hx,h1,by rw[←e1, ←e2],hlo.key,hlo.value⟩
 | _::_::_,hlen,_,_=>exact absurd (by simp) hlen
theorem JE {w0 w:World} {s:Nat} {σ:AD Nd} {G:Nat→Prop} {la:Option Addr} {cap:Nat} {l:List Wm} {old:Int} {k:List UInt8} {d:Nat} {L:AS} (hd:d≤256) (h:Ow w0 w s σ G) (GG:Store.Good σ) (H:BuOk G w σ la cap l old k d L) (hl0:0<l.length) (hk2:(nd σ old).kind≠2) :
 Calls Tryz.prog 138 #[.pointer (some ⟨s,0,none⟩),.int .i64 old,.int .i64 (d:Nat),.slice la l.length cap] w
  (MA w0 w s σ G k d (tree (256-d) (CT L (l.map Wm.wp))) ((257-d)*l.length) (3*((257-d)*l.length)+1)):=by
 obtain⟨F,hAt⟩:=h.at;have hlf:=VQ GG hd H.lok H.rep hk2;have hkd:=fun w1 (a:Adds w w1)=>E3 (hAt.adds a) old
 have hky:=fun w1 (a:Adds w w1)=>Key_ok (hAt.adds a) old
 have hva:=fun w1 (a:Adds w w1)=>Dh (hAt.adds a) old
 obtain⟨kd,hkdd⟩:∃kd,kd=(nd σ old).kind:=⟨_,rfl⟩
 rw[←hkdd] at hkd hlf;have hkd2:¬((kd:Nat):Int)=2:=by omega
 obtain⟨len,hlen⟩:∃len,len=l.length:=⟨_,rfl⟩
 have hn0:¬(len:Int)=0:=by omega
 have HW:=(hIq hkd (aIq hky hva))
 have HH:=(hIq h (aIq GG (aIq H hlf)))
 have HL:=(hIq hlen (aIq hl0 (aIq hkdd hd)))
 obtain⟨i0,z0,p1,p2,p3,p4,p5⟩:=LK;obtain⟨j0,y0,q1,q2,q3,q4,q5⟩:=IS;obtain⟨ZP,hZP⟩:∃Z,Z=Nw.cells:=⟨_,rfl⟩
 have hz:=Lm;rw[←hZP] at hz;have hzs:ZP.size=33:=by rw[hZP];exact Pr.size rfl
 have HIW:=(hIq p1 (aIq p2 (aIq p3 (aIq p4 p5))))
 have HIP:=(hIq q1 (aIq q2 (aIq q3 (aIq q4 q5))))
 have HZ:=(hIq hz hzs)
 rw[←hlen];clear h GG H hAt hlf hkd hky hva hkdd hlen hl0 hk2 hd p1 p2 p3 p4 p5 q1 q2 q3 q4 q5 hZP hz hzs;go_enter Tryz.func138,Tryz.ntmps138;go_wp2_with fail;refine(HW.out.1 w (Ch.refl _ _)).mono ?_;rintro e w1 ⟨rfl,a1⟩;have A1:=Lib.hid a1;clear a1;go_wp2_with fail;refine(HW.out.1 w1 A1.out).mono ?_;rintro e w2 ⟨rfl,a2⟩;have A2:=Lib.hid (A1.out.trans a2 (fun _=>fEq));clear a2;go_upto_if 33 with fail;go_cut [9] (fun s9 wx=>∃(ma:Option Addr) (mc:Nat) (m:List Pr),s9=.slice ma m.length mc∧BA wx ma m∧m.map Pr.ent=L∧Adds w wx)
 case first =>
  rcases HH.out.2.2.2 with⟨hL0,hk0,h00⟩|⟨x,hx,hx1,hLx,hxl,hxv⟩
  · subst hk0
    have HLZ:=Lib.hid hL0;clear hL0 h00;go_wp2;go_meet;exact⟨none,0,[],rfl,⟨fun x hx=>(by cases hx),fun i x hx=>(by simp at hx)⟩,HLZ.out.symm,A2.out⟩
  have hk1:kd=1:=by rw[HL.out.2.2.1,Ci hx,hx1]
  subst hk1;have hkk:(nd σ old).key=x.key:=C6 hx;have hvv:(nd σ old).value=x.value:=Dg hx;obtain⟨K,hK⟩:∃K,K=AK x.key:=⟨_,rfl⟩
  have hks:K.size=32:=by rw[hK,AN];exact hxl
  have hk1:∀v∈K.toList,v.oneCell'=true:=by rw[hK];exact Ae _
  have HK:=(hIq hK (aIq hks (aIq hk1 (aIq hkk hvv))))
  have HX:=(hIq hLx (aIq hxl hxv))
  clear hx hx1 hLx hxl hxv hkk hvv hK hks hk1;go_wp2_with fail;refine(HW.out.2.1 w2 A2.out).mono ?_;rintro e w3 ⟨rfl,a3⟩;rw[HK.out.2.2.2.1, ←HK.out.1];have A3:=Lib.hid (A2.out.trans a3 (fun _=>fEq));clear a3;go_wp2_with fail;refine(HW.out.2.2 w3 A3.out).mono ?_;rintro e w4 ⟨v4,rfl,hb4,hv4,a4⟩;rw[HK.out.2.2.2.2] at hb4;obtain⟨vo,vcap,rfl,_⟩:=hb4.form;obtain⟨bn,hbn⟩:∃bn,bn=x.value.length:=⟨_,rfl⟩
  rw[←hbn] at hb4 hv4 ⊢;have A4:=(hIq (A3.out.trans a4 (fun _=>fEq)) (aIq hb4 hv4))
  obtain⟨D,hD⟩:∃D,D=K++#[Value.slice vo bn vcap]:=⟨_,rfl⟩
  have hpb:=JI K vo bn vcap HK.out.2.1;rw[←hD] at hpb
  have hDx:D=(Pr.mk x.key (.slice vo bn vcap) x.value).cells:=by
   rw[hD,HK.out.1];apply Array.ext';simp[Pr.cells,AK]
  have hDs:D.size=33:=by rw[hD,Array.size_append,HK.out.2.1];rfl
  have hD1:∀v∈D.toList,v.oneCell'=true:=fun v hv=>by
   rw[hD,Array.toList_append,List.mem_append] at hv;rcases hv with hv|hv
   · exact HK.out.2.2.1 v hv
   obtain rfl:=List.mem_singleton.1 hv;rfl
  have HD:=(hIq hDx (aIq hDs (aIq hD1 hpb)))
  clear hD hpb hDx hDs hD1 a4 hb4 hv4 hbn
  go_wp2_with (first
   | fail
   | ((with_reducible show zOq (.build 86 _));refine Cl rfl 86 0 1 _ _ rfl (.agg K) (.slice vo bn vcap) rfl rfl D HD.out.2.2.2 ?_)
   | ((with_reducible show zOq (.buildSlice 56 _ _));refine As rfl 56 _ rfl 86 j0 y0 (.agg D) rfl Tryz.underlying56 HIP.out.1 HIP.out.2.1 (by rw[HIP.out.2.2.1];decide) (by rw[HIP.out.2.2.1];decide) (by rw[HIP.out.2.2.1];exact HD.out.2.1) ?_)
   | (at_builtin;refine Ak rfl _ _ 56 rfl 86 j0 y0 33 56 Tryz.underlying56 HIP.out.1 HIP.out.2.1 HIP.out.2.2.1 HIP.out.2.2.2.1 HIP.out.2.2.2.2 (by decide) (.slice none 0 0) 0 [] rfl (World.ownsRow_nil _ _ _ _) ⟨w4.heap.size,0,none⟩ 1 1 D.toList rfl (by rw[Array.length_toList,HD.out.2.1]) (Cc (heap_alloc_new w4 (.cells D 86))) HD.out.2.2.1 (by decide) (by decide) ?_;intro v' w5 own' grow' loc'))
  obtain⟨o6,c6,hv6⟩:=Aj own';subst hv6;have ha5:Adds w4 w5:=((Ch.refl _ _).alloc _).grown grow' (fun j hj=>by cases hj)
  have hrow5:Ck 86 33 Pr.cells w5 0 (.slice o6 (0+1) c6) [Pr.mk x.key (.slice vo bn vcap) x.value]:=by
   unfold Ck;rw[show BC Pr.cells [Pr.mk x.key (.slice vo bn vcap) x.value]=D.toList by rw[HD.out.1];simp[BC]];exact own'
  obtain⟨ra,rc,re,rrow,rcap⟩:=hrow5.row (fun y hy=>by rw[List.mem_singleton.1 hy];exact Pr.size HX.out.2.1) (by decide);injection re with re1 re2 re3;subst re1
  have hpa:BA w5 o6 [Pr.mk x.key (.slice vo bn vcap) x.value]:=⟨fun y hy=>by
   rw[List.mem_singleton.1 hy];exact⟨HX.out.2.1,A4.out.2.1.Af ha5 (fun _ _ h=>h),fun _ j hj=>Nat.lt_of_lt_of_le (A4.out.2.2 j hj).2 ha5.size⟩,rrow⟩
  have H5:=(hIq hpa (A4.out.1.trans ha5 (fun _=>fEq)))
  clear own' grow' loc' ha5 hrow5 re2 re3 rrow rcap hpa;go_wp2_with fail;go_meet;exact⟨o6,c6,[Pr.mk x.key (.slice vo bn vcap) x.value],rfl,H5.out.1,HX.out.1.symm,H5.out.2⟩
 obtain⟨ma,mc,mr,rfl,hpa,hents,hA⟩:=hcut;obtain⟨mn,hmn⟩:∃n,n=mr.length:=⟨_,rfl⟩
 have hmn1:mr.length≤1:=by
  have h1:mr.length=L.length:=by rw[←hents,List.length_map]
  rcases HH.out.2.2.2 with⟨hL0,_⟩|⟨x,_,_,hLx,_⟩
  · rw[h1,hL0];simp
  rw[h1,hLx];simp
 have hvs:∀x∈mr.map Pr.wm++l,x.gone=false→x.val.length≤1024:=fun x hx hg=>by
  rcases List.mem_append.1 hx with hx|hx
  · obtain⟨p,hp,rfl⟩:=List.mem_map.1 hx
    have hpL:p.ent∈L:=by rw[←hents];exact List.mem_map_of_mem hp
    rcases HH.out.2.2.2 with⟨hL0,_⟩|⟨x,_,_,hLx,_,hxv⟩
    · rw[hL0] at hpL;cases hpL
    rw[hLx] at hpL;have:=List.mem_singleton.1 hpL;have h2:p.val=x.value:=congrArg Prod.snd this
    show p.val.length≤1024
    rw[h2];exact hxv
  exact HH.out.2.2.1.val x hx hg
 have hov:=Pc mc cap hpa (HH.out.2.2.1.row.at_.adds hA) (by omega) (by have:=HH.out.2.2.1.few;omega) HL.out.2.1 hvs;rw[←hmn, ←HL.out.1] at hov;have HOV:=Lib.hid hov;have HM:=(hIq hents hmn1)
 have HA:=Lib.hid hA;rw[←hmn];clear hpa hents hmn hmn1 hvs hov hA;go_wp2_with fail;refine HOV.out.mono ?_;rintro e w3 ⟨out,oa,ocap,rfl,hO⟩;obtain⟨n,hn⟩:∃n,n=out.length:=⟨_,rfl⟩
 have hn200:n≤200:=by
  obtain⟨l',e1,e2⟩:=hO.ex;obtain⟨o2,e3,e4⟩:=e1.ex;have h1:=e3.len;have h2:=e4.length_eq;have h3:=congrArg List.length e2;rw[List.length_map,List.length_map] at h3;have h4:=List.length_filter_le (fun x:Wm => !x.gone) l';rw[List.length_append,List.length_map] at h1;have:=HM.out.2;have:=HH.out.2.2.1.few;omega
 rw[←hn];have HO:=Lib.hid hO;have HN:=(hIq hn hn200)
 clear hO hn hn200;go_wp2_with fail;go_loopg [10,12,48] n (fun g s10 s12 s48 wr=>∃(j:Nat),s48=.int .i64 j∧j+g=n∧UK w3 wr s10 ((out.take j).map Pr.wm))
 case atStart=>exact⟨0,rfl,by omega,⟨Ck.nil _ _,Ch.refl _ _⟩⟩
 obtain⟨j,rfl,hj,hst⟩:=hrel;obtain⟨oo,oc,rfl⟩:=hst.row.form;have HS:=Lib.hid hst;have HJ:=Lib.hid hj;obtain⟨all,hall⟩:∃all,all=(out.take j).map Pr.wm:=⟨_,rfl⟩
 have hkm:j≤out.length:=by have:=HN.out;omega
 have hal:all.length=j:=by rw[hall,List.length_map,List.length_take];omega
 rw[←hall,hal] at HS ⊢;have HALL:=(hIq hall hal)
 by_cases hjn:j=n
 · have hx1:decide ((j:Int)<(n:Int))=false:=decide_eq_false (by omega)
   have hx1':decide (j<n)=false:=decide_eq_false (by omega);have hall2:all=out.map Pr.wm:=by rw[hall,List.take_of_length_le (by have:=HN.out;omega)]
   have hW:Adds w wr:=(HA.out.trans HO.out.world (fun _=>fEq)).trans hst.world (fun _=>fEq);have ho:=HH.out.1.more hW (G':=fun k=>G k∨(w.heap.size≤k∧k<wr.heap.size)) (fun k hk=>hk)
   have hgood:∀x∈all,x.Good w3:=fun x hx=>by
    rw[hall2] at hx;obtain⟨p,hp,rfl⟩:=List.mem_map.1 hx;exact Pr.Gr (HO.out.pairs.1 p hp)
   have hrow:=hst.row;rw[←hall,hal] at hrow;have hso:EZ Wm.cells 34 all:=fun x hx=>Wm.size (hgood x hx).key
   obtain⟨ra,rc,re,rrow,rcap⟩:=hrow.row hso (by decide);injection re with re1 re2 re3;subst re1;subst re3
   have hwm:WmsG (fun k=>G k∨(w.heap.size≤k∧k<wr.heap.size)) wr oo all:=by
    refine⟨⟨fun x hx=>(hgood x hx).Af hst.world (fun _=>fEq),rrow⟩,fun h0=>?_,fun x hx h0 b hb=>.inr ?_⟩
    · obtain⟨g,cp,cu,e1,e2,_,e3,_⟩:=hrow.open hso (List.length_pos_iff.2 h0)
      injection e1 with e1;have h1:=HA.out.size;have h2:=HO.out.world.size;exact⟨_,e1,.inr ⟨by show w.heap.size≤g;omega,Ac e3⟩⟩
    have hb3:=(hgood x hx).blk h0 b hb;rw[hall2] at hx;obtain⟨p,hp,rfl⟩:=List.mem_map.1 hx;have h1:=HO.out.news p hp b hb;have h2:=HA.out.size;have h3:=hst.world.size;omega
   obtain⟨E,hE⟩:∃E,E=all.map Wm.ent:=⟨_,rfl⟩
   have hE2:E=out.map Pr.ent:=by rw[hE,hall2,List.map_map];rfl
   obtain⟨l',hlo,hle⟩:=HO.out.ex;obtain⟨o2,e3,e4⟩:=hlo.ex
   have hkl:(l.map (·.key)).Nodup:=by
    have:=HH.out.2.2.1.ok.nodup
    rwa [show keysOf (l.map Wm.ent)=l.map (·.key) by simp[keysOf,Wm.ent]] at this
   have hperm:E.Perm (CT L (l.map Wm.wp)):=by
    rw[hE2,hle];refine((e4.filter _).map _).trans ?_;exact e3.ents (by rw[List.map_map];exact HM.out.1) HH.out.2.2.1.lok.nodup hkl (fun a ha=>by obtain⟨p,_,rfl⟩:=List.mem_map.1 ha;rfl)
   have hwok:=Qw HH.out.2.2.1.ok HH.out.2.2.1.val;have hok:=AS.Ok.aQ (LU HH.out.2.2.1.lok hwok) hperm
   have hLv:∀p∈L,p.2.length≤1024:=fun p hp=>by
    rcases HH.out.2.2.2 with⟨hL0,_⟩|⟨x,_,_,hLx,_,hxv⟩
    · rw[hL0] at hp;cases hp
    rw[hLx] at hp;rw[List.mem_singleton.1 hp];exact hxv
   have hov:=VW hLv hwok
   have hfw:Bx (Br σ old) E≤l.length:=by
    have h1:=RP (e:=Br σ old) (L:=L) (by
     rcases HH.out.2.2.2 with⟨hL0,_⟩|⟨x,hx,hx1,hLx,_⟩
     · exact .inl hL0
     refine .inr ⟨_,hLx,?_⟩;unfold Br;rw[if_pos (by rw[Ci hx];exact hx1),C6 hx,Dg hx]) (l.map Wm.wp)
    rw[List.length_map] at h1;unfold Bx at *;rw[hperm.countP_eq];exact h1
   have hfl:=WY (e:=Br σ old) hok.nodup;have hEl:E.length=n:=by rw[hE,List.length_map,hal,hjn]
   rw[hEl] at hfl;have hmm:=Nat.mul_le_mul_left (257-d) hfw;have hroom:=HH.out.2.2.1.room;have htot:=HH.out.2.2.1.total
   have hfr:Q1 (fun k=>G k∨(w.heap.size≤k∧k<wr.heap.size)) wr σ oo oc all old k d:=⟨hwm,rcap,by rw[hal,hjn];exact HN.out.2,HH.out.2.2.1.key,by rw[←hE];exact hok,by
    rw[←hE,hE2,hle];exact hlo.rise.sublist (List.filter_sublist.map _),fun x hx=>by
    have:x.ent∈E:=by rw[hE];exact List.mem_map_of_mem hx
    exact hov _ (hperm.mem_iff.1 this),HH.out.2.2.1.rep.live,by rw[←hE];omega,by rw[←hE,hal,hjn];have:=HN.out.2;omega⟩
   have hfresh:=VK (256-d) d (by have:=HL.out.2.2.2;omega) ho HH.out.2.1 hfr;rw[←hE,hal,IW (256-d) hperm] at hfresh;have HFR:=(hIq hfresh (aIq hW (aIq hmm (aIq hfl hjn))))
   clear hj hst hall hkm hall2 hW ho hgood hrow hso re2 rrow rcap hwm hE hE2 hlo hle e3 e4 hkl hperm hwok hok hLv hov hfw hfl hEl hmm hroom htot hfr hfresh hal hjn;go_wp2_with fail;refine HFR.out.1.mono ?_;rintro e w4 ⟨r,σ',rfl,o4,b4,B4⟩;have H4:RowKit.Hid (Ow w0 w4 s σ' G∧But G w w4∧Bt σ σ' k r d (tree (256-d) (CT L (l.map Wm.wp))) ((257-d)*l.length) (3*((257-d)*l.length)+1)):=Lib.hid ⟨o4.less (fun _ h=>.inl h),(Adds.but HFR.out.2.1).then (b4.less (fun _ h=>.inl h)),B4.Ik HFR.out.2.2.1 (by have:=HFR.out.2.2;omega)⟩;clear o4 b4 B4;go_wp2;go_ret;rw[HL.out.1];exact⟨r,σ',rfl,H4.out⟩
 have hx1:decide ((j:Int)<(n:Int))=true:=decide_eq_true (by omega);have hx1':decide (j<n)=true:=decide_eq_true (by omega);have hkl':j<out.length:=by have:=HN.out.1;omega
 have hklen:(j:Int)<(n:Int):=by omega
 have hklen':j<n:=by omega
 have hwk:wrap64 ((j:Int)+1)=(j:Int)+1:=by have:=HN.out;unfold wrap64;omega
 obtain⟨x,hx⟩:∃x,out[j]?=some x:=⟨_,List.getElem?_eq_getElem hkl'⟩
 obtain⟨g0,off,rfl,hp⟩:=HO.out.pairs.2 j x hx;have hg:=HO.out.pairs.1 x (List.mem_of_getElem? hx);have hsz:=Pr.size hg.key;obtain⟨cur,ty,fr,c1,c2,c3⟩:=hp;rw[hsz] at c2 c3;obtain⟨C,hC⟩:∃C,C=x.cells:=⟨_,rfl⟩
 have hone:=Pr.one hg;have hkey:=Pr.BX hg.key;have hvl:=Pr.Hc hg.key;obtain⟨K,hK⟩:∃K,K=AK x.key:=⟨_,rfl⟩
 obtain⟨xo,xc,hxv,_,_⟩:=hg.val.form;obtain⟨xn,hxn⟩:∃n,n=x.val.length:=⟨_,rfl⟩
 have hgw:=Pr.Gr hg;have hks:K.size=32:=by rw[hK,AN];exact hg.key
 obtain⟨D,hD⟩:∃D,D=x.wm.cells:=⟨_,rfl⟩
 have hds:=Wm.size hgw.key;have hd1:=Wm.one hgw;have hbu:=Pg K xo xn xc hks
 have hde:K++#[.bool false,.slice xo xn xc]=D:=by
  rw[hD,hK,hxn, ←hxv];apply Array.ext';simp[Wm.cells,AK,Pr.wm]
 rw[hde] at hbu;rw[hxv, ←hxn] at hvl;rw[←hC] at c3 hsz hone hkey hvl;rw[←hK] at hkey;rw[←hD] at hds hd1;have HC:=(hIq (hst.world.row c1 id) (aIq c2 (aIq c3 (aIq hsz (aIq hone hkey)))))
 have htk:out.take (j+1)=out.take j ++ [x]:=by rw[List.take_add_one,hx];rfl
 have HX:=(hIq htk (aIq hds (aIq hd1 (aIq hbu hD))))
 have HV:=Lib.hid hvl;clear hj hjn hst hall hal hkm hx hg hsz c1 c2 c3 hC hone hkey hvl hK hxv hxn hgw hks hD hds hd1 hbu hde htk
 go_upto_region 11 with(first
  | fail
  | ((with_reducible show zOq (.load 86 _));refine AG rfl 86 _ rfl g0 (off+j*33) rfl HC.out.1 Tryz.underlying86 rfl Fu (by have:=HC.out.2.1;omega) C HC.out.2.2.1 ?_)
  | ((with_reducible show zOq (.alloc 86));refine AI rfl 86 rfl (.agg ZP) HZ.out.1 ?_;dsimp only[Value.cells];try simp only[World.size_alloc])
  | ((with_reducible show zOq (.store 86 _ _));refine AE rfl 86 _ _ rfl wr.heap.size 0 C rfl rfl (heap_alloc_new _ _) (by rw[Fu,HC.out.2.2.2.1]) (by rw[HC.out.2.2.2.1,HZ.out.2];omega) HC.out.2.2.2.2.1 C (by rw[AJ _ _ (by rw[Array.length_toList,Array.length_toList,HC.out.2.2.2.1,HZ.out.2])]) ?_))
 refine BJ (fun wx hwx=>?_);have ax:Adds wr wx:=by rw[hwx];exact((Ch.refl _ _).alloc _).setRow (.inr (Nat.le_refl _)) _
 have rx:wx.heap[wr.heap.size]?=some (.cells C 86 (0,0)):=by rw[hwx];exact AF (heap_alloc_new wr (.cells ZP 86)) C
 have q32:=AH rx HV.out;have AX:=(hIq ax rx)
 clear ax rx hwx
 go_wp2_with (first
  | fail
  | ((with_reducible show zOq (.load 47 _));refine AG rfl 47 _ rfl wr.heap.size 0 rfl AX.out.2 Tryz.underlying47 rfl AY (by rw[HC.out.2.2.2.1];omega) K HC.out.2.2.2.2.2 ?_)
  | ((with_reducible show zOq (.build 134 _));refine Cl rfl 134 0 2 _ _ rfl (.agg K) (.slice xo xn xc) rfl rfl D HX.out.2.2.2.1 ?_)
  | ((with_reducible show zOq (.buildSlice 132 _ _));refine As rfl 132 _ rfl 134 i0 z0 (.agg D) rfl Tryz.underlying132 HIW.out.1 HIW.out.2.1 (by rw[HIW.out.2.2.1];decide) (by rw[HIW.out.2.2.1];decide) (by rw[HIW.out.2.2.1];exact HX.out.2.1) ?_)
  | (at_builtin;refine Ak rfl _ _ 132 rfl 134 i0 z0 34 64 Tryz.underlying132 HIW.out.1 HIW.out.2.1 HIW.out.2.2.1 HIW.out.2.2.2.1 HIW.out.2.2.2.2 (by decide) (.slice oo j oc) j (BC Wm.cells all) rfl (by have:=(HS.out.row.adds (AX.out.1.alloc (.cells D 134))).base (b':=0) (fun _ _=>Nat.zero_le _);rw[HALL.out.2] at this;exact this) ⟨wx.heap.size,0,none⟩ 1 1 D.toList rfl (by rw[Array.length_toList,HX.out.2.1]) (Cc (heap_alloc_new wx (.cells D 134))) HX.out.2.2.1 (by have:=HN.out;unfold maxLen;omega) (by have:=HN.out;omega) ?_;intro v' w4 own' grow' loc'))
 obtain⟨o6,c6,hv6⟩:=Aj own';subst hv6;have hA6:Adds w3 w4:=((HS.out.world.trans AX.out.1 (fun _=>fEq)).alloc _).grown grow' (fun j hj=>.inr (HS.out.row.lt j hj).1)
 have H6:RowKit.Hid (UK w3 w4 (.slice o6 (j+1) c6) ((out.take (j+1)).map Pr.wm)):=Lib.hid ⟨by
  have hfl:BC Wm.cells ((out.take (j+1)).map Pr.wm)=BC Wm.cells all++D.toList:=by rw[HX.out.1,List.map_append,CZ,HALL.out.1,HX.out.2.2.2.2];simp[BC]
  have hln:((out.take (j+1)).map Pr.wm).length=j+1:=by rw[HX.out.1,List.map_append, ←HALL.out.1,List.length_append,HALL.out.2];rfl
  unfold Ck;rw[hfl,hln];refine own'.base (fun j hj=>?_);rcases loc' with e|e
  · rw[e] at hj
    exact(HS.out.row.lt j hj).1
  have h1:=e j hj;have h2:=(HS.out.world.trans AX.out.1 (fun _=>fEq)).size;simp at h1;omega,hA6⟩
 clear own' grow' loc' hA6;go_wp2_with fail;go_roundg (gk-1)
 case measure=>have:=HJ.out;omega
 exact⟨j+1,by first|(simp;done)|(simp[hwk];done),by have:=HJ.out;omega,H6.out⟩
def Hx (σ:AD Nd) (a b:Int) (j:Nat):AD Nd :=
 if j=0 then σ else if j=1 then (if a≠0 then (An σ a).2.2 else σ) else (if b≠0 then (An (if a≠0 then (An σ a).2.2 else σ) b).2.2 else (if a≠0 then (An σ a).2.2 else σ))
theorem RL (σ:AD Nd) (a b:Int) {j:Nat} (hj:j<2):Hx σ a b (j+1)=if (if j=0 then a else b)≠0 then (An (Hx σ a b j) (if j=0 then a else b)).2.2 else Hx σ a b j:=by
 match j,hj with
 | 0,_=>rfl
 | 1,_=>rfl
theorem RU {w0 w:World} {s:Nat} {σ:AD Nd} {G:Nat→Prop} {la:Option Addr} {cap:Nat} {old:Int} {k:List UInt8} {d:Nat} {L:AS} (h:Ow w0 w s σ G) (GG:Store.Good σ) (H:BuOk G w σ la cap [] old k d L) :
 Calls Tryz.prog 138 #[.pointer (some ⟨s,0,none⟩),.int .i64 old,.int .i64 (d:Nat),.slice la 0 cap] w
  (MA w0 w s σ G k d (tree (256-d) (CT L [])) 0 1):=by
 rw[WW];have hkp:=N1 h old;have hbt:=Bt.kept (key:=k) GG H.rep H.pre (by have:=H.total;omega);have HK:=(hIq hkp hbt)
 clear h GG H hkp hbt;go_enter Tryz.func138,Tryz.ntmps138;go_wp2_with fail;refine HK.out.1.mono ?_;rintro e w1 ⟨rfl,o1,b1⟩;have H1:=(hIq o1 b1)
 clear o1 b1;go_wp2;go_ret;exact⟨old,_,rfl,H1.out.1,H1.out.2,HK.out.2⟩
structure VM (G:Nat→Prop) (w:World) (σ:AD Nd) (l:List Wm) (x:Nd) (k k1 k2:List UInt8) (d n:Nat) (L:AS):Prop where
 d1:d<256
 keys:(k1.length=32∧Pre k1 k d∧AU k1 d=0)∧(k2.length=32∧Pre k2 k d∧AU k2 d=1)
 wok:AS.Ok ((l.take n).map Wm.ent) k1 (d+1)∧AS.Ok ((l.drop n).map Wm.ent) k2 (d+1)
 lok:AS.Ok (sideE 0 d L) k1 (d+1)∧AS.Ok (sideE 1 d L) k2 (d+1)
 rep:Rep (sk σ) x.left (d+1) (tree (256-(d+1)) (sideE 0 d L))∧Rep (sk σ) x.right (d+1) (tree (256-(d+1)) (sideE 1 d L))
 pre:(∀y,sk σ x.left=some y→Pre y.key k1 (d+1))∧(∀y,sk σ x.right=some y→Pre y.key k2 (d+1))
 join:Lu (tree (256-(d+1)) (CT (sideE 0 d L) ((l.take n).map Wm.wp))) (tree (256-(d+1)) (CT (sideE 1 d L) ((l.drop n).map Wm.wp)))=tree (256-d) (CT L (l.map Wm.wp))
theorem TG {G:Nat→Prop} {w:World} {σ:AD Nd} {la:Option Addr} {cap:Nat} {l:List Wm} {old:Int} {k:List UInt8} {d n:Nat} {L:AS} (GG:Store.Good σ) (H:BuOk G w σ la cap l old k d L) (hk2:(nd σ old).kind=2)
 (hnl:n≤l.length) (p0:∀i x,i<n→l[i]?=some x→AU x.key d=0) (p1:∀x,l[n]?=some x→AU x.key d=1) :
 ∃x k1 k2,sk σ old=some x∧x.kind=2∧x.depth=(d:Nat)∧VM G w σ l x k k1 k2 d n L:=by
 have hz:=GG.fit.zero
 have hd256:d≤256:=by
  rcases Nat.lt_or_ge 256 d with h|h
  · exfalso
    have hr:=H.rep;rw[show 256-d=0 by omega] at hr;have hnode:=(GB hz hr).1 hk2
    match L,hnode with
    | [],h=>cases h
    | [p],h=>cases h
    | p::q::R,h=>cases h
  exact h
 have hnode:=(GB hz H.rep).1 hk2;have h2:2≤L.length:=(Ed (m:=256-d) (by rw[show 256-(256-d)=d by omega];exact H.lok)).1 hnode
 have hd1:d<256:=by
  rcases Nat.lt_or_ge d 256 with h|h
  · exact h
  have:=H.lok;rw[show d=256 by omega] at this;have:=this.few;omega
 obtain⟨m,hm⟩:∃m,256-d=m+1:=⟨255-d,by omega⟩
 have hr:=H.rep;rw[hm,Bu h2,show 255-m=d by omega] at hr;obtain⟨k1,e1,e2,e3⟩:=GU k H.key hd1 0 (.inl rfl);obtain⟨k2,e4,e5,e6⟩:=GU k H.key hd1 1 (.inr rfl)
 have hsw:=JA (n:=n) H.ok hd1 H.rise (fun i p hi hp=>by
  rw[List.getElem?_map] at hp;cases hx:l[i]? with
  | none=>rw[hx] at hp;cases hp
  | some x=>rw[hx] at hp;cases hp;exact p0 i x hi hx) (fun p hp=>by
  rw[List.getElem?_map] at hp;cases hx:l[n]? with
  | none=>rw[hx] at hp;cases hp
  | some x=>rw[hx] at hp;cases hp;exact p1 x hx)
 rw[←List.map_take, ←List.map_drop] at hsw
 have wside:∀b (M:List Wm),sideE b d (l.map Wm.ent)=M.map Wm.ent→M.Sublist l→(∀x∈M,AU x.key d=b)→Kl b d (l.map Wm.wp)=M.map Wm.wp:=fun b M h1 h3 h4=>by
  have hcomp:∀N:List Wm,Kl b d (N.map Wm.wp)=(N.filter fun x=>AU x.key d == b).map Wm.wp:=fun N=>by
   unfold Kl;rw[List.filter_map];rfl
  have hcomp2:∀N:List Wm,sideE b d (N.map Wm.ent)=(N.filter fun x=>AU x.key d == b).map Wm.ent:=fun N=>by
   unfold sideE;rw[List.filter_map];rfl
  have hM:M.filter (fun x=>AU x.key d == b)=M:=List.filter_eq_self.2 fun x hx=>by simpa using h4 x hx
  have hlen:(l.filter fun x=>AU x.key d == b).length=M.length:=by
   have:=congrArg List.length h1;rw[hcomp2,List.length_map,List.length_map] at this;exact this
  have hsub:(M.filter fun x=>AU x.key d == b).Sublist (l.filter fun x=>AU x.key d == b):=h3.filter _;rw[hM] at hsub;rw[hcomp, ←hsub.eq_of_length hlen.symm]
 have bit0:∀x∈l.take n,AU x.key d=0:=fun x hx=>by
  have:x.ent∈sideE 0 d (l.map Wm.ent):=by rw[hsw.1];exact List.mem_map_of_mem hx
  have:=(List.mem_filter.1 this).2;exact eq_of_beq this
 have bit1:∀x∈l.drop n,AU x.key d=1:=fun x hx=>by
  have:x.ent∈sideE 1 d (l.map Wm.ent):=by rw[hsw.2];exact List.mem_map_of_mem hx
  have:=(List.mem_filter.1 this).2;exact eq_of_beq this
 have hw0:=wside 0 (l.take n) hsw.1 (List.take_sublist _ _) bit0;have hw1:=wside 1 (l.drop n) hsw.2 (List.drop_sublist _ _) bit1;have hwok:=Qw H.ok H.val;have hjt:=NJ (m:=m) (by omega) H.key (L:=CT L (l.map Wm.wp)) (by rw[show 255-m=d by omega];exact LU H.lok hwok);rw[show 255-m=d by omega,NY,NY,hw0,hw1] at hjt;have hk1:=H.ok.Hu e2 e3;have hk2':=H.ok.Hu e5 e6;rw[hsw.1] at hk1;rw[hsw.2] at hk2';generalize ht:Tr.node (tree m (sideE 0 d L)) (tree m (sideE 1 d L))=t at hr;cases hr with
 | nil=>cases ht
 | leaf _ _=>cases ht
 | @node _ _ x tl tr hn hk hdp hl hr =>
  injection ht with ht1 ht2;rw[←ht1] at hl;rw[←ht2] at hr;obtain⟨q1,q2⟩:=GG.fit.pre hn hk hdp (H.pre x hn);obtain⟨r1,r2⟩:=GG.fit.kids hn hk;refine⟨x,k1,k2,hn,hk,hdp,hd1,⟨⟨e1,e2,e3⟩,⟨e4,e5,e6⟩⟩,⟨hk1,hk2'⟩,⟨H.lok.Hu e2 e3,H.lok.Hu e5 e6⟩,by rw[show 256-(d+1)=m by omega];exact⟨hl,hr⟩,⟨fun y hy=>?_,fun y hy=>?_⟩,by rw[show 256-(d+1)=m by omega,hm];exact hjt⟩
  · refine((q1 y hy).trans e2.symm).next ?_
    have:=(r1 y hy).2;rw[hdp] at this;rw[II hd1 (b:=0) this,e3]
  refine((q2 y hy).trans e5.symm).next ?_
  have:=(r2 y hy).2;rw[hdp] at this;rw[II hd1 (b:=1) this,e6]
end Go.Proofs.YtngbdbpofifimaaGreat.Law9
namespace Go.Proofs.YtngbdbpofifimaaGreat.Store
open Go.RowKit Go.Proofs.YtngbdbpofifimaaGreat.ShaW Go.Proofs.YtngbdbpofifimaaGreat.Path
structure Wk where
 todo:List Int
 cnt:Int→Nat
inductive Fro (σ:AD Nd) (R:List Int):Int→Prop
 | root {h:Int}:h∈R→h≠0→Fro σ R h
 | left {h:Int}:Fro σ R h→(nd σ h).left≠0→Fro σ R (nd σ h).left
 | right {h:Int}:Fro σ R h→(nd σ h).right≠0→Fro σ R (nd σ h).right
structure XO (σ:AD Nd) (R:List Int) (i:Nat) (k:Wk):Prop where
 nodup:k.todo.Nodup
 mem:∀h,h∈k.todo↔0<k.cnt h
 cnt:∀h,h≠0→k.cnt h=R.count h+((k.todo.take i).map fun x=>refs (nd σ x) h).sum
 zero:k.cnt 0=0
 there:∀h∈k.todo,has σ h=true
 fro:∀h∈k.todo,Fro σ R h
section
variable {σ : AD Nd} {R : List Int} {i : Nat} {k : Wk}
structure cA (σ:AD Nd) (R:List Int) (k:Wk):Prop where
 nodup:k.todo.Nodup
 mem:∀h,h∈k.todo↔0<k.cnt h
 zero:k.cnt 0=0
 there:∀h∈k.todo,has σ h=true
 fro:∀h∈k.todo,Fro σ R h
end
end Go.Proofs.YtngbdbpofifimaaGreat.Store
namespace Go.Proofs.YtngbdbpofifimaaGreat
open Go.RowKit Go.Maps
namespace AD
end AD
abbrev ky (n:Int):Lit:=.int .i64 n
abbrev num (n:Int):DataW Value:=.lit (.int .i64 n)
def aT (v:Value):Option (DataW Value×List MemPlace):=some (.held v,[])
@[reducible] def bM (a b c:Int):Value:=.agg #[.int .i64 a,.int .i64 b,.int .i64 c]
def WN (v:Value):Prop:=∃a b c,v=bM a b c
structure dF (σ:AD) (Dc Dt:DataW Value) (k:Nat):Prop where
 cnt:∀n:Int,Dc.atKey (ky n) (num 0)=num (σ.count n)
 has:∀n:Int,Maps.has Dc (ky n)=(σ.get? n).isSome
 size:Maps.size Dc=σ.used
 thing:∀(n:Int) s z,σ.get? n=some s→Dt.atKey (ky n) z=.held s.1
 few:∀(n:Int) s,σ.get? n=some s→s.2≤k
 acts:∀(n:Int) s,σ.get? n=some s→WN s.1
end Go.Proofs.YtngbdbpofifimaaGreat
namespace Go.Proofs.YtngbdbpofifimaaGreat.Store
open Go.RowKit Go.Proofs.YtngbdbpofifimaaGreat.ShaW Go.Proofs.YtngbdbpofifimaaGreat.Path
open Go.Maps (Keyed keyOf_int_mk)
noncomputable abbrev aY:Value→Option (DataW Value×List MemPlace):=plainElem Tryz.prog 3
structure Z9 (w:World) (b n:Nat) (f:Int→Nat) (sz:Nat):Prop where
 ex:∃D,w.ownsMap Tryz.prog 3 aY b n D∧Maps.size D=sz∧∀x:Int,D.atKey (ky x) (num 0)=num (f x)∧Maps.has D (ky x)=decide (0<f x)
def Ta (l:List Int):List Value:=l.map (Value.int .i64)
structure dA (w0 w:World) (b5 b6 m n:Nat) (k:Wk):Prop where
 r5:w.heap[b5]?=some (.cells #[.map (some m)] 241 (0,0))
 r6:∃ao cap,w.heap[b6]?=some (.cells #[.slice ao k.todo.length cap] 61 (0,0))∧w.ownsRow w0.heap.size 3 1 (.slice ao k.todo.length cap) k.todo.length (Ta k.todo)
 cnt:Z9 w m n k.cnt k.todo.length
 adds:Ch (fun _=>False) w0 w
 m0:w0.heap.size≤m
 b60:w0.heap.size≤b6
end Go.Proofs.YtngbdbpofifimaaGreat.Store
namespace Go.Proofs.YtngbdbpofifimaaGreat.Store
open Go.RowKit Go.Proofs.YtngbdbpofifimaaGreat.ShaW Go.Proofs.YtngbdbpofifimaaGreat.Path
def Fy (w:World) (ao:Option Addr) (l:List Int):Prop:=∀i x,l[i]?=some x→∃g off,ao=some ⟨g,off,none⟩∧w.cell? ⟨g,off+i,none⟩=some (.int .i64 x)
theorem Fy.nil (w:World) (ao:Option Addr):Fy w ao []:=fun i x hx=>by simp at hx
theorem Fy.own {w:World} {base n:Nat} {ao:Option Addr} {cap:Nat} {l:List Int} (h:w.ownsRow base 3 1 (.slice ao n cap) n (Ta l)):Fy w ao l∧l.length=n:=by
 have hl:l.length=n:=by have:=h.1;simp[Ta] at this;omega
 refine⟨fun i x hx=>?_,hl⟩;have hi:=(List.getElem?_eq_some_iff.1 hx).1;obtain⟨g,cap',cur,he,hg,h1,h2,h3,h4⟩:=Cs h (by omega);cases he;refine⟨g,0,rfl,?_⟩;rw[Nat.zero_add];refine AH hg (Dk h4 ?_);unfold Ta;rw[List.getElem?_map,hx];rfl
def aZ (σ:AD Nd):List Int→Int
 | []=>0
 | h::R=>if BS σ h≠0 then BS σ h else aZ σ R
def chk (σ:AD Nd) (R:List Int):Int:=if 64<R.length then 4 else aZ σ R

def Zk (σ:AD Nd) (f:Int→Nat) (l:List Nat):List (Int×Int×Int):=l.filterMap fun h:Nat=>if ((σ.count (h:Int):Nat):Int)=(f (h:Int):Nat) then none else some ((h:Int),((f (h:Int):Nat):Int),((σ.count (h:Int):Nat):Int))

end Go.Proofs.YtngbdbpofifimaaGreat.Store
namespace Go.Proofs.YtngbdbpofifimaaGreat.Store
open Go.RowKit Go.Sort Go.Proofs.YtngbdbpofifimaaGreat.ShaW Go.Proofs.YtngbdbpofifimaaGreat.Path
def cH (f:Int→Nat) (l:List Nat):List Int:=(l.filter fun h:Nat=>decide (f (h:Int)=0)).map fun h:Nat=>(h:Int)

def cO (D0:DataW Value) (left:Lit→Bool) (ss:List Int):Prop:=ss.Nodup∧∀x,x∈ss↔(Maps.has D0 (ky x)=true∧left (ky x)=false)

theorem Su:∃i,Tryz.prog.info? 3=some i∧i.zero=some (.int .i64 0)∧i.size=1∧i.bytes=8:=by
 obtain⟨i,h1,h2⟩:=Option.map_eq_some_iff.1 (by kernel_rfl:(Tryz.prog.info? 3).map (fun i=>(i.zero,i.size,i.bytes))=some (some (.int .i64 0),1,8));simp only[Prod.mk.injEq] at h2;exact⟨i,h1,h2.1,h2.2.1,h2.2.2⟩
theorem Gb {w w':World} {e b sz n:Nat} {v v':Value} {xs:List Value} (own:w'.ownsRow 0 e sz v' n xs) (hlow:∀k,v.ownBlock=some k→b≤k) (hb:b≤w.heap.size) (loc:v'.ownBlock=v.ownBlock∨∀k,v'.ownBlock=some k→w.heap.size≤k):w'.ownsRow b e sz v' n xs :=
 own.base (fun k hk=>by
  rcases loc with e|e
  · rw[e] at hk;exact hlow k hk
  have:=e k hk;omega)
end Go.Proofs.YtngbdbpofifimaaGreat.Store
