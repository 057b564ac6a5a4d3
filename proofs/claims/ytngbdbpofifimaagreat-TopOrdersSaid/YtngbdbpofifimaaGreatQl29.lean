/- Laws of the layers below. -/
import Derived.Test.YtngbdbpofifimaaGreatQl26
import Derived.Test.YtngbdbpofifimaaGreatQl28
set_option maxHeartbeats 3200000
set_option maxRecDepth 100000
set_option linter.unusedVariables false
namespace Go.Proofs.YtngbdbpofifimaaGreat.Law9
open Go.RowKit Go.Sort Go.Proofs.YtngbdbpofifimaaGreat.ShaW Go.Proofs.YtngbdbpofifimaaGreat.Path Go.Proofs.YtngbdbpofifimaaGreat.Store
def Pr.wm (p:Pr):Wm:=⟨p.key,false,p.vv,p.val⟩
theorem Pr.Gr {w:World} {p:Pr} (h:p.Good w):p.wm.Good w:=⟨h.key,h.val,h.blk⟩
theorem LY {P:Program} {t:TypeId} {it:TypeInfo} {Z:Array Value} {fields:Array Field} (hi:P.info? t=some it) (hz:it.zero=some (.agg Z)) (hu:P.underlying t=some (.struct fields))
 (hp:fields.toList.mapM (fun f=>(P.info? f.type).map fun i=>(f.offset,i.size))=some [(0,32),(32,1),(33,1)]) (hs:Z.size=34) (m x:Value) (hm:Z.toList.drop 32 = [m,x]) (T:Array Value) (v:Value) (hT:T.size=32) (hv:v.cells=#[v]) :
 P.built t [(0,.agg T),(2,v)]=some (T++#[m,v]):=by
 have hTl:T.toList.length=32:=by rw[Array.length_toList];exact hT
 have hzl:Z.toList.length=34:=by rw[Array.length_toList];exact hs
 unfold Program.built;rw[hi,hu];simp only[hz,hp];have hsl:(splice Z.toList 0 T.toList).length=34:=by rw[Cd _ _ _ (by omega)];exact hzl
 rw[Ai (v:=.agg T) (off:=0) (size:=32) rfl hT (by show 0+32≤Z.size;omega),Ai (v:=v) (off:=33) (size:=1) rfl (by rw[hv];rfl) (by show 33+1≤((splice Z.toList 0 T.toList).toArray).size;rw[List.size_toArray,hsl];omega)];simp only[Instr.fill,Option.some.injEq];apply Array.ext';rw[hv]
 show splice (splice Z.toList 0 T.toList) 33 [v]=(T++#[m,v]).toList
 rw[Array.toList_append];unfold splice;rw[List.take_zero,List.nil_append,hTl,Nat.zero_add,hm,List.take_append,List.drop_append,hTl];rw[List.take_of_length_le (by omega),List.drop_eq_nil_of_le (by simp;omega)];simp
theorem Pg (T:Array Value) (ao:Option Addr) (n c:Nat) (hT:T.size=32):Tryz.prog.built 134 [(0,.agg T),(2,.slice ao n c)]=some (T++#[.bool false,.slice ao n c]):=by
 obtain⟨i,h1,h2,h3,h4⟩:=info_parts (P:=Tryz.prog) (e:=134) (z:=.agg I1.cells) (size:=34) (bytes:=64) (by kernel_rfl);exact LY h1 h2 Tryz.underlying134 (by kernel_rfl) (Wm.size rfl) (.bool false) (.slice none 0 0) rfl T _ hT rfl
structure UK (w wr:World) (v:Value) (all:List Wm):Prop where
 row:Ck 134 34 Wm.cells wr w.heap.size v all
 world:Adds w wr
structure K9 (w wr:World) (v:Value) (l':List Wm) (out:List Pr) (k:Nat):Prop where
 row:EK wr w.heap.size v out
 vals:∀x∈out,x.key.length=32∧Bytes wr x.vv x.val∧∀j,x.vv.ownBlock=some j→(j<wr.heap.size∧v.ownBlock≠some j)∧w.heap.size≤j
 ents:out.map Pr.ent=((l'.take k).filter fun x => !x.gone).map Wm.ent
 world:Adds w wr
theorem K9.adds {w wr w':World} {v:Value} {l':List Wm} {out:List Pr} {k:Nat} (h:K9 w wr v l' out k) (a:Adds wr w'):K9 w w' v l' out k :=
 ⟨h.row.adds a,fun x hx=>by obtain⟨p,q,r⟩:=h.vals x hx;exact⟨p,q.Af a (fun _ _ h=>h),fun j hj=>⟨⟨Nat.lt_of_lt_of_le (r j hj).1.1 a.size,(r j hj).1.2⟩,(r j hj).2⟩⟩,h.ents,h.world.trans a (fun _=>fEq)⟩
theorem K9.push {w wr w2 w':World} {v v':Value} {l':List Wm} {out:List Pr} {k:Nat} {x:Wm} {p:Pr} (h:K9 w wr v l' out k) (hx:l'[k]?=some x) (hg:x.gone=false) (a:Adds wr w2) (hpx:p.ent=x.ent) (hk:p.key.length=32) (hb:Bytes w2 p.vv p.val)
 (hn:∀j,p.vv.ownBlock=some j→wr.heap.size≤j∧j<w2.heap.size) {o:Obj} (ho:w'.ownsRow 0 86 33 v' (out.length+1) (Bj out++p.cells.toList)) (hgr:(w2.alloc o).grownBy w' v.ownBlock)
 (hl:v'.ownBlock=v.ownBlock∨∀j,v'.ownBlock=some j→(w2.alloc o).heap.size≤j):K9 w w' v' l' (out ++ [p]) (k+1):=by
 have hc:Ch (fun k=>v.ownBlock=some k) w2 w':=((Ch.refl _ _).alloc o).grown hgr (fun k hk=>.inl hk);have hlt:∀j,v.ownBlock=some j→w.heap.size≤j∧j<wr.heap.size:=fun j hj=>h.row.lt j hj
 have hsz:=a.size
 have hv':∀j,v'.ownBlock=some j→(v.ownBlock=some j)∨w2.heap.size<j:=fun j hj=>by
  rcases hl with e|e
  · rw[e] at hj;exact .inl hj
  have:=e j hj;simp at this;exact .inr (by omega)
 refine⟨?_,fun y hy=>?_,?_,(h.world.trans a (fun _=>fEq)).trans hc (fun j hj=>.inr (hlt j hj).1)⟩
 · unfold EK
   rw[Gd,List.length_append,List.length_singleton,show Bj [p]=p.cells.toList by simp[Bj]];refine ho.base (fun j hj=>?_);rcases hv' j hj with e|e
   · exact(hlt j e).1
   have:=h.world.size;omega
 · rcases List.mem_append.1 hy with hy|hy
   · obtain⟨q1,q2,q3⟩:=h.vals y hy
     refine⟨q1,(q2.Af a (fun _ _ h=>h)).Af hc (fun j hj e=>(q3 j hj).1.2 e),fun j hj=>⟨⟨Nat.lt_of_lt_of_le (Nat.lt_of_lt_of_le (q3 j hj).1.1 hsz) hc.size,fun e=>?_⟩,(q3 j hj).2⟩⟩;rcases hv' j e with e2|e2
     · exact(q3 j hj).1.2 e2
     have:=(q3 j hj).1.1;omega
   obtain rfl:=List.mem_singleton.1 hy;refine⟨hk,hb.Af hc (fun j hj e=>?_),fun j hj=>⟨⟨Nat.lt_of_lt_of_le (hn j hj).2 hc.size,fun e=>?_⟩,Nat.le_trans h.world.size (hn j hj).1⟩⟩
   · have h1:=(hn j hj).1
     have h2:=(hlt j e).2;omega
   have h1:=hn j hj;rcases hv' j e with e2|e2
   · have h2:=(hlt j e2).2;omega
   omega
 have htk:l'.take (k+1)=l'.take k ++ [x]:=by rw[List.take_add_one,hx];rfl
 rw[htk,List.filter_append,List.map_append,List.map_append,h.ents];simp[hg,hpx]
theorem K9.skip {w wr:World} {v:Value} {l':List Wm} {out:List Pr} {k:Nat} {x:Wm} (h:K9 w wr v l' out k) (hx:l'[k]?=some x) (hg:x.gone=true):K9 w wr v l' out (k+1):=by
 have htk:l'.take (k+1)=l'.take k ++ [x]:=by rw[List.take_add_one,hx];rfl
 exact⟨h.row,h.vals,by rw[htk,List.filter_append,h.ents];simp[hg],h.world⟩
structure Over (w w':World) (m:List Pr) (l:List Wm) (ao:Option Addr) (cap:Nat) (out:List Pr):Prop where
 ex:∃l',Ce (m.map Pr.wm++l) l'∧out.map Pr.ent=(l'.filter fun x => !x.gone).map Wm.ent
 pairs:BA w' ao out
 cap:out.length≤cap∨out = []
 news:∀x∈out,∀j,x.vv.ownBlock=some j→w.heap.size≤j
 world:Adds w w'
theorem Pc {w:World} {ma la:Option Addr} {m:List Pr} {l:List Wm} (mc lc:Nat) (hm:BA w ma m) (hl:Cq w la l) (hmn:m.length≤1000) (hln:l.length≤1000) (hl0:0<l.length) (hval:∀x∈m.map Pr.wm++l,x.gone=false→x.val.length≤1024) :
 Calls Tryz.prog 210 #[.slice ma m.length mc,.slice la l.length lc] w fun e w'=>∃out ao cap,e=.returned (.slice ao (List.length out) cap)∧Over w w' m l ao cap out:=by
 obtain⟨ln,hlnn⟩:∃ln,ln=l.length:=⟨_,rfl⟩
 obtain⟨mn,hmnn⟩:∃mn,mn=m.length:=⟨_,rfl⟩
 obtain⟨la,rfl⟩:∃a,la=some a:=by
  obtain⟨g,off,e,_⟩:=hl.row 0 _ (List.getElem?_eq_getElem hl0);exact⟨_,e⟩
 have hso:EZ Wm.cells 34 l:=fun y hy=>Wm.size (hl.good y hy).key
 have hfl:=DX l hso;obtain⟨FL,hFL⟩:∃F,F=BC Wm.cells l:=⟨_,rfl⟩
 have hf1:∀u∈FL,u.oneCell'=true:=fun u hu=>by
  rw[hFL] at hu;obtain⟨x,hx,hxu⟩:=List.mem_flatMap.1 hu;exact Wm.one (hl.good x hx) u hxu
 rw[←hFL, ←hlnn] at hfl;obtain⟨i0,z0,p1,p2,p3,p4,p5⟩:=LK;obtain⟨j0,y0,q1,q2,q3,q4,q5⟩:=IS;obtain⟨j8,r1,r2,r3,r4⟩:=info_parts (P:=Tryz.prog) (e:=5) (z:=.int .u8 0) (size:=1) (bytes:=1) (by kernel_rfl);obtain⟨ZP,hZP⟩:∃Z,Z=Nw.cells:=⟨_,rfl⟩
 have hz:=Lm;rw[←hZP] at hz;have hzs:ZP.size=33:=by rw[hZP];exact Pr.size rfl
 obtain⟨ZW,hZW⟩:∃Z,Z=I1.cells:=⟨_,rfl⟩
 have hzw:=RF;rw[←hZW] at hzw;have hzws:ZW.size=34:=by rw[hZW];exact Wm.size rfl
 have HIW:=(hIq p1 (aIq p2 (aIq p3 (aIq p4 p5))))
 have HIP:=(hIq q1 (aIq q2 (aIq q3 (aIq q4 q5))))
 have HI8:=(hIq r1 (aIq r2 (aIq r3 r4)))
 have HZ:=(hIq (aIq hz hzs) (aIq hzw hzws))
 have HM:=Lib.hid hm;have HVL:=Lib.hid hval;have HL:=Lib.hid hl;have HLN:=(hIq hlnn (aIq hln hl0))
 have HMN:=(hIq hmnn hmn)
 have HF:=(hIq hFL (aIq hfl (aIq hf1 hso)))
 rw[←hlnn, ←hmnn];clear hm hl hval hmn hln hl0 hso hfl hf1 hFL p1 p2 p3 p4 p5 q1 q2 q3 q4 q5 r1 r2 r3 r4 hZP hz hzs hZW hzw hzws hlnn hmnn;go_enter Tryz.func210,Tryz.ntmps210;go_wp2;go_loopg [5,7,13] mn (fun g s5 s7 s13 wr=>∃(k:Nat),s13=.int .i64 k∧k+g=mn∧UK w wr s5 ((m.take k).map Pr.wm))
 case atStart=>exact⟨0,rfl,by omega,⟨Ck.nil _ _,Ch.refl _ _⟩⟩
 obtain⟨k,rfl,hk,hst⟩:=hrel;obtain⟨oo,oc,rfl⟩:=hst.row.form;have HS:=Lib.hid hst;have HKG:=Lib.hid hk;obtain⟨all,hall⟩:∃all,all=(m.take k).map Pr.wm:=⟨_,rfl⟩
 have hkm:k≤m.length:=by have:=HMN.out;omega
 have hal:all.length=k:=by rw[hall,List.length_map,List.length_take];omega
 rw[←hall,hal] at HS ⊢;have HALL:=(hIq hall hal)
 by_cases hkl:k=mn
 · have hx1:decide ((k:Int)<(mn:Int))=false:=decide_eq_false (by omega)
   have hx1':decide (k<mn)=false:=decide_eq_false (by omega);have hall2:all=m.map Pr.wm:=by rw[hall,List.take_of_length_le (by have:=HMN.out;omega)]
   have HA2:=Lib.hid hall2;clear hk hst hall hal hkm hall2;go_upto_region 8 with fail
   go_wp2_with (first
    | fail
    | (at_builtin;refine Ak rfl _ _ 132 rfl 134 i0 z0 34 64 Tryz.underlying132 HIW.out.1 HIW.out.2.1 HIW.out.2.2.1 HIW.out.2.2.2.1 HIW.out.2.2.2.2 (by decide) (.slice oo k oc) k (BC Wm.cells all) rfl (by have:=HS.out.row.base (b':=0) (fun _ _=>Nat.zero_le _);rw[HALL.out.2] at this;exact this) la ln lc FL rfl HF.out.2.1 (by rw[HF.out.1];exact(HL.out.adds HS.out.world).row.news HF.out.2.2.2 (by decide)) HF.out.2.2.1 (by have:=HMN.out;have:=HLN.out;unfold maxLen;omega) (by have:=HMN.out;have:=HLN.out;omega) ?_;intro v' w4 own' grow' loc'))
   obtain⟨o6,c6,hv6⟩:=Aj own';subst hv6;have hA6:Adds w w4:=HS.out.world.grown grow' (fun j hj=>.inr (HS.out.row.lt j hj).1)
   have hgood:∀x∈all++l,x.Good w:=fun x hx=>by
    rcases List.mem_append.1 hx with hx|hx
    · rw[HA2.out] at hx
      obtain⟨p,hp,rfl⟩:=List.mem_map.1 hx;exact Pr.Gr (HM.out.1 p hp)
    exact HL.out.good x hx
   have hal:(all++l).length=k+ln:=by rw[List.length_append,HALL.out.2,HLN.out.1]
   have hrow6:Ck 134 34 Wm.cells w4 0 (.slice o6 (k+ln) c6) (all++l):=by
    unfold Ck;rw[CZ,hal, ←HF.out.1];exact own'
   obtain⟨ra,rc,re,rrow,rcap⟩:=hrow6.row (fun x hx=>Wm.size (hgood x hx).key) (by decide);injection re with re1 re2 re3;subst re1;subst re3;have hw6:Cq w4 o6 (all++l):=⟨fun x hx=>(hgood x hx).Af hA6 (fun _=>fEq),rrow⟩
   have hlast:=OJ c6 hw6 (by have:=HMN.out;have:=HLN.out;have:=HALL.out.2;omega);rw[hal] at hlast;have HLA:=Lib.hid hlast;have H6:=Lib.hid hA6;clear own' grow' loc' hA6 hgood hal hrow6 re2 rrow rcap hw6 hlast;go_wp2_with fail;refine HLA.out.mono ?_;rintro e w5 ⟨l',lo,lcap,rfl,hcap,hlo,hwl,a5,_⟩;obtain⟨n5,hn5⟩:∃n,n=l'.length:=⟨_,rfl⟩
   have hn5b:n5≤2000:=by
    obtain⟨out0,e1,e2⟩:=hlo.ex;have h1:=e1.len;have h2:=e2.length_eq;rw[List.length_append,HALL.out.2] at h1;have:=HMN.out;have:=HLN.out;omega
   rw[←hn5];have H5:=(hIq (H6.out.trans a5 (fun _=>fEq)) (aIq hwl (aIq hlo (aIq hn5 hn5b))))
   clear hcap hlo hwl a5 hn5 hn5b;go_wp2_with fail;go_loopg [8,10,31] n5 (fun g s8 s10 s31 wr=>∃(k:Nat) (out:List Pr),s31=.int .i64 k∧k+g=n5∧K9 w5 wr s8 l' out k)
   case atStart=>exact⟨0,[],rfl,by omega,⟨EK.nil _ _,fun x hx=>(by cases hx),rfl,Ch.refl _ _⟩⟩
   obtain⟨j,out,rfl,hj,hst⟩:=hrel;have h5r:=hst.world;obtain⟨oo',oc',rfl⟩:=hst.row.form;have HS2:=Lib.hid hst;have HJ:=Lib.hid hj
   have hol:out.length≤j:=by
    have:=congrArg List.length hst.ents;rw[List.length_map,List.length_map] at this;have h2:=List.length_filter_le (fun x:Wm => !x.gone) (l'.take j);rw[List.length_take] at h2;omega
   have HOL:=Lib.hid hol;by_cases hjl:j=n5
   · have hy1:decide ((j:Int)<(n5:Int))=false:=decide_eq_false (by omega)
     have hy1':decide (j<n5)=false:=decide_eq_false (by omega);have hents:=hst.ents;rw[List.take_of_length_le (by have:=H5.out.2.2.2.1;omega)] at hents;have hrx:Ck 86 33 Pr.cells wr w5.heap.size (.slice oo' out.length oc') out:=hst.row;obtain⟨ra,rc,re,rrow,rcap⟩:=hrx.row (fun x hx=>Pr.size (hst.vals x hx).1) (by decide);injection re with re1 re2 re3;subst re1;subst re3;have hpa:BA wr oo' out:=⟨fun x hx=>by obtain⟨p,q,r⟩:=hst.vals x hx;exact⟨p,q,fun _ j hj=>(r j hj).1.1⟩,rrow⟩
     have hnw:∀x∈out,∀j,x.vv.ownBlock=some j→w.heap.size≤j:=fun x hx j hj=>Nat.le_trans H5.out.1.size ((hst.vals x hx).2.2 j hj).2
     have hlo:=H5.out.2.2.1;rw[HA2.out] at hlo;have HFIN:RowKit.Hid (Over w wr m l oo' oc' out):=Lib.hid ⟨⟨l',hlo,hents⟩,hpa,rcap,hnw,H5.out.1.trans hst.world (fun _=>fEq)⟩;clear hj hst h5r hol hjl hents hrx re2 rrow rcap hpa hlo hnw;go_wp2;go_ret;exact⟨out,oo',oc',rfl,HFIN.out⟩
   have hy1:decide ((j:Int)<(n5:Int))=true:=decide_eq_true (by omega);have hy1':decide (j<n5)=true:=decide_eq_true (by omega);have hjl':j<l'.length:=by have:=H5.out.2.2.2.1;omega
   have hjlen:(j:Int)<(n5:Int):=by omega
   have hjlen':j<n5:=by omega
   have hwj:wrap64 ((j:Int)+1)=(j:Int)+1:=by have:=H5.out.2.2.2.2;unfold wrap64;omega
   obtain⟨x,hx⟩:∃x,l'[j]?=some x:=⟨_,List.getElem?_eq_getElem hjl'⟩
   obtain⟨g0,off,rfl,hp⟩:=H5.out.2.1.row j x hx;have hg:=(H5.out.2.1.good x (List.mem_of_getElem? hx)).Af h5r (fun _=>fEq);have hsz:=Wm.size hg.key;obtain⟨cur,ty,fr,c1,c2,c3⟩:=hp;rw[hsz] at c2 c3;obtain⟨C,hC⟩:∃C,C=x.cells:=⟨_,rfl⟩
   have hone:=Wm.one hg;have hkey:=Wm.BX hg.key;have hgn:=Wm.LC hg.key;have hvl:=Wm.Hc hg.key;obtain⟨K,hK⟩:∃K,K=AK x.key:=⟨_,rfl⟩
   have hks:K.size=32:=by rw[hK,AN];exact hg.key
   have hk1:∀v∈K.toList,v.oneCell'=true:=by rw[hK];exact Ae _
   rw[←hC] at c3 hsz hone hkey hgn hvl;rw[←hK] at hkey;have HC:=(hIq (h5r.row c1 id) (aIq c2 (aIq c3 (aIq hsz (aIq hone hkey)))))
   have hxl:x.gone=false→x.val.length≤1024:=fun hgn=>by
    obtain⟨out0,e1,e2⟩:=H5.out.2.2.1.ex;obtain⟨y,hy,rfl⟩:=e1.mem x (e2.mem_iff.1 (List.mem_of_getElem? hx));rw[HA2.out] at hy
    have hyg:y.gone=false:=by
     unfold Wm.bare at hgn;split at hgn
     · cases hgn
     exact hgn
    have:=HVL.out y hy hyg;unfold Wm.bare;rw[if_neg (by rw[hyg];simp)];exact this
   have HXL:=Lib.hid hxl;have HX:=(hIq hx (aIq hg (aIq hK (aIq hks hk1))))
   clear hxl;have HV:=(hIq hgn hvl)
   clear hj hst h5r hol hjl hx hg hsz c1 c2 c3 hC hone hkey hgn hvl hK hks hk1
   go_upto_region 11 with(first
    | fail
    | ((with_reducible show zOq (.load 134 _));refine AG rfl 134 _ rfl g0 (off+j*34) rfl HC.out.1 Tryz.underlying134 rfl Eu (by have:=HC.out.2.1;omega) C HC.out.2.2.1 ?_)
    | ((with_reducible show zOq (.alloc 134));refine AI rfl 134 rfl (.agg ZW) HZ.out.2.1 ?_;dsimp only[Value.cells];try simp only[World.size_alloc])
    | ((with_reducible show zOq (.store 134 _ _));refine AE rfl 134 _ _ rfl wr.heap.size 0 C rfl rfl (heap_alloc_new _ _) (by rw[Eu,HC.out.2.2.2.1]) (by rw[HC.out.2.2.2.1,HZ.out.2.2];omega) HC.out.2.2.2.2.1 C (by rw[AJ _ _ (by rw[Array.length_toList,Array.length_toList,HC.out.2.2.2.1,HZ.out.2.2])]) ?_))
   refine BJ (fun wx hwx=>?_);have ax:Adds wr wx:=by rw[hwx];exact((Ch.refl _ _).alloc _).setRow (.inr (Nat.le_refl _)) _
   have rx:wx.heap[wr.heap.size]?=some (.cells C 134 (0,0)):=by rw[hwx];exact AF (heap_alloc_new wr (.cells ZW 134)) C
   have q32:=AH rx HV.out.1;obtain⟨gb,hgb⟩:∃gb,gb=x.gone:=⟨_,rfl⟩
   rw[←hgb] at q32;have HGB:=Lib.hid hgb;have AX:=(hIq ax rx)
   clear ax rx hwx hgb;cases gb with
   | true =>
    have S6:RowKit.Hid (K9 w5 wx (.slice oo' out.length oc') l' out (j+1)):=Lib.hid ((HS2.out.adds AX.out.1).skip HX.out.1 HGB.out.symm);go_wp2_with fail;go_roundg (gk-1)
    case measure=>have:=HJ.out;omega
    exact⟨j+1,out,by first|(simp;done)|(simp[hwj];done),by have:=HJ.out;omega,S6.out⟩
   | false =>
    go_upto_region 12 with fail;go_wp2;refine AO (fun w0=>w0.heap[wr.heap.size]?=some (.cells C 134 (0,0))) 10 [(0,false),(1,false),(2,false),(3,false),(4,false),(5,true),(6,false),(7,true),(8,true),(9,false)] (by kernel_rfl) (by kernel_rfl) ?_ ?_
    · exact AP AX.out.2
    iterate 2
     refine plan_look rfl rfl (fun w0 hS=>(by clear hS;go_simp;try rfl)) ?_;simp only[Act.put,nAq,nBq,nCq]
    refine Ah (cur:=C) (t:=134) (fr:=(0,0)) rfl rfl 47 _ rfl wr.heap.size 0 32 rfl (fun w0 hS=>hS) Tryz.underlying47 rfl AY (by rw[HC.out.2.2.2.1];omega) K HC.out.2.2.2.2.2 ?_;simp only[Act.put,nAq,nBq,nCq];refine plan_look rfl rfl (fun w0 hS=>(by clear hS;go_simp;try rfl)) ?_;simp only[Act.put,nAq,nBq,nCq];refine plan_look (v:=x.vv) rfl rfl (fun w0 hS=>(by have e0:=AH hS HV.out.2;clear hS;go_simp;try rfl)) ?_;simp only[Act.put,nAq,nBq,nCq];refine AV rfl ?_
    go_wp2_with (first
     | fail
     | (at_builtin;go_must (refine Dv rfl _ _ 29 rfl 5 j8 Tryz.underlying29 HI8.out.1 HI8.out.2.1 HI8.out.2.2.1 HI8.out.2.2.2 rfl _ rfl x.val (HX.out.2.1.val.Af AX.out.1.drew (fun _ _ h=>h)) (by have:=HXL.out HGB.out.symm;omega) ?_);intro v7 w7 hb7 hv7 a7))
    obtain⟨vo,vcap,rfl,_⟩:=hb7.form;have hr7:=a7.row (AP AX.out.2) id;have H7:=(hIq hb7 (aIq hv7 (aIq (AX.out.1.drew.trans a7 (fun _=>fEq)) hr7)))
    obtain⟨bn,hbn⟩:∃bn,bn=x.val.length:=⟨_,rfl⟩
    rw[←hbn] at H7 ⊢;have HBN:=Lib.hid hbn;clear hb7 hv7 a7 hr7 hbn;refine⟨H7.out.2.2.2,?_⟩;obtain⟨D,hD⟩:∃D,D=K++#[Value.slice vo bn vcap]:=⟨_,rfl⟩
    have hpb:=JI K vo bn vcap HX.out.2.2.2.1;rw[←hD] at hpb
    have hDx:D=(Pr.mk x.key (.slice vo bn vcap) x.val).cells:=by
     rw[hD,HX.out.2.2.1];apply Array.ext';simp[Pr.cells,AK]
    have hDs:D.size=33:=by rw[hD,Array.size_append,HX.out.2.2.2.1];rfl
    have hD1:∀v∈D.toList,v.oneCell'=true:=fun v hv=>by
     rw[hD,Array.toList_append,List.mem_append] at hv;rcases hv with hv|hv
     · exact HX.out.2.2.2.2 v hv
     obtain rfl:=List.mem_singleton.1 hv;rfl
    have HD:=(hIq hDx (aIq hDs (aIq hD1 hpb)))
    clear hD hpb hDx hDs hD1;refine DN rfl rfl 86 0 1 _ _ rfl (.agg K) (.slice vo bn vcap) rfl rfl D HD.out.2.2.2 ?_;simp only[Act.put,nAq,nBq,nCq];refine AV rfl ?_
    go_wp2_with (first
     | fail
     | ((with_reducible show zOq (.buildSlice 56 _ _));refine As rfl 56 _ rfl 86 j0 y0 (.agg D) rfl Tryz.underlying56 HIP.out.1 HIP.out.2.1 (by rw[HIP.out.2.2.1];decide) (by rw[HIP.out.2.2.1];decide) (by rw[HIP.out.2.2.1];exact HD.out.2.1) ?_))
    refine⟨AM H7.out.2.2.2 _,?_⟩;refine AV rfl ?_
    go_wp2_with (first
     | fail
     | (at_builtin;refine Ak rfl _ _ 56 rfl 86 j0 y0 33 56 Tryz.underlying56 HIP.out.1 HIP.out.2.1 HIP.out.2.2.1 HIP.out.2.2.2.1 HIP.out.2.2.2.2 (by decide) (.slice oo' out.length oc') out.length (Bj out) rfl (((HS2.out.row.adds H7.out.2.2.1).alloc _).base (fun _ _=>Nat.zero_le _)) ⟨w7.heap.size,0,none⟩ 1 1 D.toList rfl (by rw[Array.length_toList,HD.out.2.1]) (Cc (heap_alloc_new w7 (.cells D 86))) HD.out.2.2.1 (by have:=HOL.out;have:=H5.out.2.2.2.2;unfold maxLen;omega) (by have:=HOL.out;have:=H5.out.2.2.2.2;omega) ?_;intro v8 w8 own' grow' loc'))
    have hB8:w8.heap[wr.heap.size]?=some (.cells C 134 (0,0)):=by
     refine(grow'.block wr.heap.size ?_ ?_).trans (AM H7.out.2.2.2 _)
     · have:=Ac H7.out.2.2.2;simp;omega
     intro e;have:=(HS2.out.row.lt _ e.symm).2;omega
    obtain⟨o8,c8,hv8⟩:=Aj own';subst hv8
    have S8:RowKit.Hid (K9 w5 w8 (.slice o8 (out.length+1) c8) l' (out ++ [Pr.mk x.key (.slice vo bn vcap) x.val]) (j+1)):=Lib.hid (HS2.out.push HX.out.1 HGB.out.symm H7.out.2.2.1 rfl HX.out.2.1.key (by have:=H7.out.1;exact this) (fun k hk=>by
     obtain⟨p,q⟩:=H7.out.2.1 k hk;have:=AX.out.1.size;exact⟨by have h9:wx.heap.size≤k:=p;omega,q⟩) (by rw[←HD.out.1];exact own') grow' loc')
    have HB8:=Lib.hid hB8;clear own' grow' loc' hB8;refine⟨HB8.out,?_⟩;refine plan_look rfl rfl (fun w0 hS=>(by clear hS;go_simp;try rfl)) ?_;simp only[Act.put,nAq,nBq,nCq];refine AZ ?_;simp only[List.drop_succ_cons,List.drop_zero];go_wp2;refine NoPanic.normal ?_;go_wp2_with fail;go_roundg (gk-1)
    case measure=>have:=HJ.out;omega
    exact⟨j+1,out ++ [Pr.mk x.key (.slice vo bn vcap) x.val],by first|(simp;done)|(simp[hwj];done),by have:=HJ.out;omega,by have:=S8.out;first|exact this|(rw[List.length_append,List.length_singleton];exact this)⟩
 have hx1:decide ((k:Int)<(mn:Int))=true:=decide_eq_true (by omega);have hx1':decide (k<mn)=true:=decide_eq_true (by omega);have hkl':k<m.length:=by have:=HMN.out.1;omega
 have hklen:(k:Int)<(mn:Int):=by omega
 have hklen':k<mn:=by omega
 have hwk:wrap64 ((k:Int)+1)=(k:Int)+1:=by have:=HMN.out;unfold wrap64;omega
 obtain⟨x,hx⟩:∃x,m[k]?=some x:=⟨_,List.getElem?_eq_getElem hkl'⟩
 obtain⟨g0,off,rfl,hp⟩:=HM.out.2 k x hx;have hg:=HM.out.1 x (List.mem_of_getElem? hx);have hsz:=Pr.size hg.key;obtain⟨cur,ty,fr,c1,c2,c3⟩:=hp;rw[hsz] at c2 c3;obtain⟨C,hC⟩:∃C,C=x.cells:=⟨_,rfl⟩
 have hone:=Pr.one hg;have hkey:=Pr.BX hg.key;have hvl:=Pr.Hc hg.key;obtain⟨K,hK⟩:∃K,K=AK x.key:=⟨_,rfl⟩
 obtain⟨xo,xc,hxv,_,_⟩:=hg.val.form;obtain⟨xn,hxn⟩:∃n,n=x.val.length:=⟨_,rfl⟩
 have hgw:=Pr.Gr hg;have hks:K.size=32:=by rw[hK,AN];exact hg.key
 obtain⟨D,hD⟩:∃D,D=x.wm.cells:=⟨_,rfl⟩
 have hds:=Wm.size hgw.key;have hd1:=Wm.one hgw;have hbu:=Pg K xo xn xc hks
 have hde:K++#[.bool false,.slice xo xn xc]=D:=by
  rw[hD,hK,hxn, ←hxv];apply Array.ext';simp[Wm.cells,AK,Pr.wm]
 rw[hde] at hbu;rw[hxv, ←hxn] at hvl;rw[←hC] at c3 hsz hone hkey hvl;rw[←hK] at hkey;rw[←hD] at hds hd1;have HC:=(hIq (hst.world.row c1 id) (aIq c2 (aIq c3 (aIq hsz (aIq hone hkey)))))
 have htk:m.take (k+1)=m.take k ++ [x]:=by rw[List.take_add_one,hx];rfl
 have HX:=(hIq htk (aIq hds (aIq hd1 (aIq hbu hD))))
 have HV:=Lib.hid hvl;clear hk hkl hst hall hal hkm hx hg hsz c1 c2 c3 hC hone hkey hvl hK hxv hxn hgw hks hD hds hd1 hbu hde htk
 go_upto_region 5 with(first
  | fail
  | ((with_reducible show zOq (.load 86 _));refine AG rfl 86 _ rfl g0 (off+k*33) rfl HC.out.1 Tryz.underlying86 rfl Fu (by have:=HC.out.2.1;omega) C HC.out.2.2.1 ?_)
  | ((with_reducible show zOq (.alloc 86));refine AI rfl 86 rfl (.agg ZP) HZ.out.1.1 ?_;dsimp only[Value.cells];try simp only[World.size_alloc])
  | ((with_reducible show zOq (.store 86 _ _));refine AE rfl 86 _ _ rfl wr.heap.size 0 C rfl rfl (heap_alloc_new _ _) (by rw[Fu,HC.out.2.2.2.1]) (by rw[HC.out.2.2.2.1,HZ.out.1.2];omega) HC.out.2.2.2.2.1 C (by rw[AJ _ _ (by rw[Array.length_toList,Array.length_toList,HC.out.2.2.2.1,HZ.out.1.2])]) ?_))
 refine BJ (fun wx hwx=>?_);have ax:Adds wr wx:=by rw[hwx];exact((Ch.refl _ _).alloc _).setRow (.inr (Nat.le_refl _)) _
 have rx:wx.heap[wr.heap.size]?=some (.cells C 86 (0,0)):=by rw[hwx];exact AF (heap_alloc_new wr (.cells ZP 86)) C
 have q32:=AH rx HV.out;have AX:=(hIq ax rx)
 clear ax rx hwx
 go_wp2_with (first
  | fail
  | ((with_reducible show zOq (.load 47 _));refine AG rfl 47 _ rfl wr.heap.size 0 rfl AX.out.2 Tryz.underlying47 rfl AY (by rw[HC.out.2.2.2.1];omega) K HC.out.2.2.2.2.2 ?_)
  | ((with_reducible show zOq (.build 134 _));refine Cl rfl 134 0 2 _ _ rfl (.agg K) (.slice xo xn xc) rfl rfl D HX.out.2.2.2.1 ?_)
  | ((with_reducible show zOq (.buildSlice 132 _ _));refine As rfl 132 _ rfl 134 i0 z0 (.agg D) rfl Tryz.underlying132 HIW.out.1 HIW.out.2.1 (by rw[HIW.out.2.2.1];decide) (by rw[HIW.out.2.2.1];decide) (by rw[HIW.out.2.2.1];exact HX.out.2.1) ?_)
  | (at_builtin;refine Ak rfl _ _ 132 rfl 134 i0 z0 34 64 Tryz.underlying132 HIW.out.1 HIW.out.2.1 HIW.out.2.2.1 HIW.out.2.2.2.1 HIW.out.2.2.2.2 (by decide) (.slice oo k oc) k (BC Wm.cells all) rfl (by have:=(HS.out.row.adds (AX.out.1.alloc (.cells D 134))).base (b':=0) (fun _ _=>Nat.zero_le _);rw[HALL.out.2] at this;exact this) ⟨wx.heap.size,0,none⟩ 1 1 D.toList rfl (by rw[Array.length_toList,HX.out.2.1]) (Cc (heap_alloc_new wx (.cells D 134))) HX.out.2.2.1 (by have:=HMN.out;unfold maxLen;omega) (by have:=HMN.out;omega) ?_;intro v' w4 own' grow' loc'))
 obtain⟨o6,c6,hv6⟩:=Aj own';subst hv6;have hA6:Adds w w4:=((HS.out.world.trans AX.out.1 (fun _=>fEq)).alloc _).grown grow' (fun j hj=>.inr (HS.out.row.lt j hj).1)
 have H6:RowKit.Hid (UK w w4 (.slice o6 (k+1) c6) ((m.take (k+1)).map Pr.wm)):=Lib.hid ⟨by
  have hfl:BC Wm.cells ((m.take (k+1)).map Pr.wm)=BC Wm.cells all++D.toList:=by rw[HX.out.1,List.map_append,CZ,HALL.out.1,HX.out.2.2.2.2];simp[BC]
  have hln:((m.take (k+1)).map Pr.wm).length=k+1:=by rw[HX.out.1,List.map_append, ←HALL.out.1,List.length_append,HALL.out.2];rfl
  unfold Ck;rw[hfl,hln];refine own'.base (fun j hj=>?_);rcases loc' with e|e
  · rw[e] at hj
    exact(HS.out.row.lt j hj).1
  have h1:=e j hj;have h2:=(HS.out.world.trans AX.out.1 (fun _=>fEq)).size;simp at h1;omega,hA6⟩
 clear own' grow' loc' hA6;go_wp2_with fail;go_roundg (gk-1)
 case measure=>have:=HKG.out;omega
 exact⟨k+1,by first|(simp;done)|(simp[hwk];done),by have:=HKG.out;omega,H6.out⟩
end Go.Proofs.YtngbdbpofifimaaGreat.Law9
