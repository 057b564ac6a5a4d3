/- Laws of the layers below. -/
import Derived.Test.YtngbdbpofifimaaGreatQk35
import Derived.Test.YtngbdbpofifimaaGreatQk34
set_option maxHeartbeats 3200000
set_option maxRecDepth 100000
set_option linter.unusedVariables false
namespace Go.Proofs.YtngbdbpofifimaaGreat.Law15
open Go.RowKit Go.Sort Go.Proofs.YtngbdbpofifimaaGreat.ShaW Go.Proofs.YtngbdbpofifimaaGreat.Path Go.Proofs.YtngbdbpofifimaaGreat.Store Go.Proofs.YtngbdbpofifimaaGreat.Law9 Go.Proofs.YtngbdbpofifimaaGreat.Law14
theorem JG {P:Program} {t:TypeId} {it:TypeInfo} {Z:Array Value} {fields:Array Field} (hi:P.info? t=some it) (hz:it.zero=some (.agg Z)) (hu:P.underlying t=some (.struct fields))
 (hp:fields.toList.mapM (fun f=>(P.info? f.type).map fun i=>(f.offset,i.size))=some [(0,32),(32,1),(33,1)]) (hs:Z.size=34) (T:Array Value) (u v:Value) (hT:T.size=32) (hu2:u.cells=#[u]) (hv:v.cells=#[v]) :
 P.built t [(0,.agg T),(1,u),(2,v)]=some (T++#[u,v]):=by
 have hTl:T.toList.length=32:=by rw[Array.length_toList];exact hT
 have hzl:Z.toList.length=34:=by rw[Array.length_toList];exact hs
 unfold Program.built;rw[hi,hu];simp only[hz,hp];have hsl:(splice Z.toList 0 T.toList).length=34:=by rw[CD _ _ _ (by omega)];exact hzl
 have hsl2:(splice (splice Z.toList 0 T.toList) 32 [u]).length=34:=by rw[CD _ _ _ (by rw[hsl];simp)];exact hsl
 rw[Ai (v:=.agg T) (off:=0) (size:=32) rfl hT (by show 0+32≤Z.size;omega),Ai (v:=u) (off:=32) (size:=1) rfl (by rw[hu2];rfl) (by show 32+1≤((splice Z.toList 0 T.toList).toArray).size;rw[List.size_toArray,hsl];omega)];rw[hu2];rw[Ai (v:=v) (off:=33) (size:=1) rfl (by rw[hv];rfl) (by show 33+1≤((splice (splice Z.toList 0 T.toList) 32 [u]).toArray).size;rw[List.size_toArray,hsl2];omega)];simp only[Instr.fill,Option.some.injEq];apply Array.ext';rw[hv]
 show splice (splice (splice Z.toList 0 T.toList) 32 [u]) 33 [v]=(T++#[u,v]).toList
 rw[Array.toList_append]
 have e1:splice Z.toList 0 T.toList=T.toList++Z.toList.drop 32:=by
  unfold splice;rw[List.take_zero,List.nil_append,hTl]
 have e2:splice (T.toList++Z.toList.drop 32) 32 [u]=T.toList++(u::Z.toList.drop 33):=by
  unfold splice;rw[List.take_left' hTl,List.drop_append,hTl,List.drop_eq_nil_of_le (by rw[hTl];simp),List.nil_append,List.drop_drop,List.append_assoc];rfl
 have e3:(Z.toList.drop 33).length=1:=by rw[List.length_drop,hzl]
 rw[e1,e2,show T.toList++u::Z.toList.drop 33=(T.toList ++ [u])++Z.toList.drop 33 by simp];have e4:(T.toList ++ [u]).length=33:=by rw[List.length_append,hTl];rfl
 unfold splice;have h5:List.drop (33 + [v].length) (T.toList ++ [u]) = []:=List.drop_eq_nil_of_le (by rw[e4];simp);have h6:List.drop (33 + [v].length-33) (Z.toList.drop 33) = []:=List.drop_eq_nil_of_le (by rw[e3];simp);rw[List.take_left' e4,List.drop_append,h5,e4,h6];simp
theorem RZ (T:Array Value) (u v:Value) (hT:T.size=32) (hu2:u.cells=#[u]) (hv:v.cells=#[v]):Tryz.prog.built 134 [(0,.agg T),(1,u),(2,v)]=some (T++#[u,v]):=by
 obtain⟨i,h1,h2,h3,h4⟩:=info_parts (P:=Tryz.prog) (e:=134) (z:=.agg Hs.cells) (size:=34) (bytes:=64) (by kernel_rfl);exact JG h1 h2 Tryz.underlying134 (by kernel_rfl) (Wm.size rfl) T u v hT hu2 hv
def Tw:Array Value:=#[.slice none 0 0,.bool false,.slice none 0 0]
theorem UK:(Tryz.prog.info? 131).bind (·.zero)=some (.agg Tw):=by kernel_rfl
theorem QD:(Tryz.prog.info? 131).map (·.size)=some 3:=by kernel_rfl
def BN.wm (x:BN):Wm:=⟨x.kb,x.gone,x.vv,x.vb⟩
theorem BN.Fw {w:World} {x:BN} (h:x.Good w) (hk:x.kb.length=32):x.wm.Good w:=⟨hk,h.val,h.vblk⟩
theorem Ow.old {w0 w:World} {s:Nat} {σ:AA Nd} {G:Nat→Prop} (h:Ow w0 w s σ G):Ow w0 w s σ (fun k=>G k∨k<w0.heap.size):=by
 obtain⟨F,h1,h2,h3,h4⟩:=h;refine⟨F,h1,h2,h3,fun k hk=>?_⟩;rcases hk with hk|hk
 · exact h4 k hk
 exact⟨fun hf=>by have:=h2 k hf;omega,Nat.lt_of_lt_of_le hk h3.size⟩
def Ws (σ:AA Nd) (l:List BN) (L L':AM) (er:Int):Prop :=
 (er=3∧(∃x∈l,x.kb.length≠32)∧L'=L)∨((∀x∈l,x.kb.length=32)∧∃n,er=Ca σ (l.map BN.wm) n∧(er≠4→∃l',Bz (l.map BN.wm) l'∧n=l'.length) ∧
  ((er≠0∧L'=L)∨(er=0∧∃l',Bz (l.map BN.wm) l'∧L'=CL L (l'.map Wm.wp))))
def Vh (σ σ':AA Nd) (l:List BN) (er:Int):Prop:=(er≠0∧σ'=σ)∨(er=0∧∃l',Bz (l.map BN.wm) l'∧Store.live σ'≤Store.live σ+258*l'.length)
def UO (w0 w:World) (d v s:Nat) (G:Nat→Prop) (room:Nat) (σ:AA Nd) (L:AM) (M:Nmd) (tn n:Nat) (l:List BN) (e:Ending) (w':World):Prop :=
 ∃er σ' r L',e=.returned (.int .i64 er)∧DStep w0 w w' d v s G room σ σ' r L' M tn n∧Ws σ l L L' er∧Vh σ σ' l er
def VB (w0 w:World) (d v s:Nat) (G:Nat→Prop) (room:Nat) (σ:AA Nd) (L:AM) (M:Nmd) (tn n:Nat) (l:List BN) (e:Ending) (w':World):Prop :=
 ∃er σ' r L',e=.returned (.int .i64 er)∧DStep w0 w w' d v s G room σ σ' r L' M tn n∧Ws σ l L L' er
section
variable {w0 w w' : World} {d v s room tn : Nat} {G : Nat→Prop} {σ σ' : AA Nd} {root r : Int} {L L' : AM} {M M' : Nmd} {R : List (Int×AM)}
theorem Ji (h:Dct w0 w d v s G room σ root L M tn) {ao:Option Addr} {l:List BN} (cap:Nat) (hl:Ga w0 ao l) (hnl:l.length*56≤140737488351232) (htn:tn≤500000000) :
 Calls Tryz.prog 15 #[.pointer (some ⟨d,0,none⟩),.slice ao l.length cap] w (UO w0 w d v s G room σ L M tn (258*l.length) l):=by
 have hw0:=h.world;have hlw:Ga w ao l:=hl.Af hw0 (fun _=>fEq);obtain⟨len,hlen⟩:∃len,len=l.length:=⟨_,rfl⟩
 obtain⟨Z,hZ⟩:∃Z,Z=AK (List.replicate 32 0):=⟨_,rfl⟩
 have hzd:=GI;have hZs:Z.size=32:=by rw[hZ];rfl
 rw[←hZ] at hzd;have hdn:=Ed h;obtain⟨ZR,hZR⟩:∃Z,Z=Tw:=⟨_,rfl⟩
 have hzr:=UK;have hzrs:ZR.size=3:=by rw[hZR];rfl
 rw[←hZR] at hzr;have HZR:=(hIq hzr hzrs)
 have HN:=Lib.hid hdn;have HZ:=(hIq hzd hZs)
 have HH:=(hIq h (aIq hl (aIq hlw htn)))
 have HL:=(hIq hlen hnl)
 rw[←hlen];clear hzr hzrs hZR hzd hZs hZ hdn hw0 hlw h hl htn hlen hnl;go_enter Tryz.func15,Tryz.ntmps15;go_wp2_with fail;refine HN.out.mono ?_;rintro e w1 ⟨rfl,rfl⟩;go_wp2_with fail;go_loopg [5,7,8,9,16] len (fun g s5 s7 s8 s9 s16 wr=>∃k:Nat,s16=.int .i64 k∧k+g=len∧(∀x∈l.take k,x.kb.length=32)∧Rp w wr s5 ((l.take k).map BN.wm))
 case atStart=>exact⟨0,rfl,by omega,fun x hx=>(by cases hx),⟨DV.nil _ _,Ch.refl _ _⟩⟩
 obtain⟨k,rfl,hk,h32,hst⟩:=hrel;obtain⟨oo,oc,rfl⟩:=hst.row.form;have HS:=Lib.hid hst;obtain⟨all,hall⟩:∃all,all=(l.take k).map BN.wm:=⟨_,rfl⟩
 have hkm:k≤l.length:=by have:=HL.out;omega
 have hal:all.length=k:=by rw[hall,List.length_map,List.length_take];omega
 rw[←hall,hal] at HS ⊢;have HALL:=(hIq hall hal)
 have HK:=(hIq hk (aIq h32 hkm))
 have hgood:∀x∈all,x.Good w:=fun y hy=>by
  rw[hall] at hy;obtain⟨x,hx,rfl⟩:=List.mem_map.1 hy;exact BN.Fw (HH.out.2.2.1.good x (List.mem_of_mem_take hx)) (h32 x hx)
 have HG:=Lib.hid hgood;by_cases hkl:k=len
 · have hx1:decide ((k:Int)<(len:Int))=false:=decide_eq_false (by omega)
   have hx1':decide (k<len)=false:=decide_eq_false (by omega);rw[List.take_of_length_le (by have:=HL.out.1;omega)] at h32;have hall2:all=l.map BN.wm:=by rw[hall,List.take_of_length_le (by have:=HL.out.1;omega)]
   have hA:=HS.out.world;have hrow:=HS.out.row;have hso:Dq Wm.cells 34 all:=fun x hx=>Wm.size (hgood x hx).key
   have hrow':=hrow;unfold DV at hrow';obtain⟨m,ho,hst2⟩:=HH.out.1.vs.step;have ho2:=(Ow.old ho).more (w':=wr.drew) hA.drew (G':=fun k=>(FP v m (fun k=>k=d∨G k) k∨k<w0.heap.size)∨(w.heap.size≤k∧k<wr.heap.size)) (fun k hk=>hk)
   have hwm:WmsG (fun k=>(FP v m (fun k=>k=d∨G k) k∨k<w0.heap.size)∨(w.heap.size≤k∧k<wr.heap.size)) wr.drew oo all:=by
    rw[←hal] at hrow;obtain⟨ra,rc,re,rrow,rcap⟩:=hrow.row hso (by decide);injection re with re1 re2 re3;subst re1;refine⟨⟨fun x hx=>(hgood x hx).Af hA.drew (fun _=>fEq),rrow.Af (Ch.refl (fun _=>False) wr).drew (fun _=>fEq)⟩,fun h0=>?_,fun x hx h0 b hb=>.inl (.inr ?_)⟩
    · obtain⟨g,cp,cu,e1,e2,_,e3,_⟩:=hrow.open hso (List.length_pos_iff.2 h0)
      injection e1 with e1;exact⟨_,e1,.inr ⟨e2,Ag e3⟩⟩
    rw[hall2] at hx;obtain⟨y,hy,rfl⟩:=List.mem_map.1 hx;exact(HH.out.2.1.good y hy).vblk h0 b hb
   have hap:=NX (cap:=oc) ho2 HH.out.1.rts hwm (by have:=HH.out.1.total;have:=HH.out.2.2.2;omega);rw[hal] at hap;have hd2:=(HH.out.1.adds hA).cell;have HP:=(hIq hap (aIq (@hst2) (aIq hd2 hA)))
   have H32:=(hIq h32 hall2)
   clear hk h32 hst hall hkm hall2 hA hrow hso hrow' ho ho2 hst2 hwm hap hd2 hgood hal hkl;go_wp2;refine AN (fun w0=>w0.heap[d]?=some (.cells (No v s root) 115 (0,0))) 15 [(0,false),(1,false),(2,false),(3,false),(4,false),(5,false),(6,false),(7,false),(8,false),(9,true),(10,false),(11,false),(12,false),(13,false),(14,false)] (by kernel_rfl) (by kernel_rfl) ?_ ?_
   · exact AS HP.out.2.2.1
   iterate 3
    iterate 1 refine plan_look rfl rfl (fun w0 hS=>(by go_simp;try rfl)) ?_
    simp only[Act.put,nAq,nBq,nCq]
   refine plan_look (v:=.pointer (some ⟨s,0,none⟩)) rfl rfl (fun w0 hS=>(by have e0:w0.cell? ⟨d,1,none⟩=some (.pointer (some ⟨s,0,none⟩)):=AE hS rfl;clear hS;go_simp;try rfl)) ?_;simp only[Act.put,nAq,nBq,nCq]
   iterate 3
    iterate 1 refine plan_look rfl rfl (fun w0 hS=>(by go_simp;try rfl)) ?_
    simp only[Act.put,nAq,nBq,nCq]
   refine plan_look (v:=.int .i64 root) rfl rfl (fun w0 hS=>(by have e0:w0.cell? ⟨d,2,none⟩=some (.int .i64 root):=AE hS rfl;clear hS;go_simp;try rfl)) ?_;simp only[Act.put,nAq,nBq,nCq]
   iterate 1 refine plan_look rfl rfl (fun w0 hS=>(by go_simp;try rfl)) ?_
   simp only[Act.put,nAq,nBq,nCq];refine AY rfl ?_;go_wp2_with fail;refine HP.out.1.mono ?_;rintro e w3 ⟨r,σ',n,rfl,o3,b3,hn3,hc3⟩;obtain⟨pe,hpe⟩:∃pe,pe=Ca σ all n:=⟨_,rfl⟩
   have hb3:=(Adds.but (G:=FP v m (fun k=>k=d∨G k)) HP.out.2.2.2.drew).then (b3.less (fun _ h=>.inl (.inl h)));obtain⟨v3,c3⟩:=HP.out.2.1 (o3.less (fun _ h=>.inl (.inl h))) hb3;have r3:=c3.row HH.out.1.cell (.inl rfl);rw[←hpe] at hn3 hc3 ⊢;rw[H32.out.2] at hn3 hc3 hpe;have H3:=(hIq v3 (aIq c3 (aIq hc3 r3)))
   have HPE:=(hIq hpe hn3)
   clear o3 b3 hc3 hb3 v3 c3 r3 hpe hn3;dsimp only;go_step;refine wpList_nil ?_;change _∧_;refine⟨H3.out.2.2.2,?_⟩
   iterate 5
    refine plan_look rfl rfl (fun w0 hS=>(by clear hS;go_simp;try rfl)) ?_;simp only[Act.put,nAq,nBq,nCq]
   refine Ab ?_;simp only[List.drop_succ_cons,List.drop_zero];go_wp2;refine NoPanic.normal ?_;by_cases h0:pe=0
   · have f3:=Ah H3.out.2.2.2 2
     have l3:=Ag H3.out.2.2.2;have c3:w3.cell? ⟨d,2,none⟩=some (.int .i64 root):=AE H3.out.2.2.2 rfl;have HP0:=Lib.hid h0;subst h0;go_wp2;go_ret;obtain⟨_,l',hap⟩:=H3.out.2.2.1.resolve_left (fun h=>h.1 rfl);have hdw:=Dct.write (tn:=tn+60000) H3.out.2.2.2 H3.out.1 hap.rts (hap.room.trans HH.out.1.room) (by have:=hap.total;have:=HH.out.1.total;omega) HH.out.1.base;refine⟨0,σ',r,_,rfl,⟨hdw.1,(H3.out.2.1.less (fun _ h=>.inr h)).then hdw.2,?_⟩,.inr ⟨H32.out.1,n,HPE.out.1,HPE.out.2,.inr ⟨rfl,l',hap.last,rfl⟩⟩,.inr ⟨rfl,l',hap.last,hap.live⟩⟩;have h1:=hap.live;have h2:=hap.last.len;rw[List.length_map] at h2;have:=Nat.mul_le_mul_left 258 h2;have:=HL.out.1;omega
   go_wp2;go_ret;obtain⟨_,_,rfl⟩:=H3.out.2.2.1.resolve_right (fun h=>h0 h.1)
   exact⟨pe,σ',root,L,rfl,⟨(⟨H3.out.2.2.2,H3.out.1,HH.out.1.rts,HH.out.1.room,HH.out.1.total,HH.out.1.base⟩:Dct w0 w3 d v s G room σ' root L M tn).JD (Nat.le_add_right _ _),H3.out.2.1.less (fun _ h=>.inr h),Nat.le_add_right _ _⟩,
    .inr ⟨H32.out.1,n,HPE.out.1,HPE.out.2,.inl ⟨h0,rfl⟩⟩,.inl ⟨h0,rfl⟩⟩
 have hx1:decide ((k:Int)<(len:Int))=true:=decide_eq_true (by omega);have hx1':decide (k<len)=true:=decide_eq_true (by omega);have hkl':k<l.length:=by have:=HL.out.1;omega
 have hklen:(k:Int)<(len:Int):=by omega
 have hklen':k<len:=by omega
 have hwk:wrap64 ((k:Int)+1)=(k:Int)+1:=by have:=HL.out;unfold wrap64;omega
 obtain⟨x,hx⟩:∃x,l[k]?=some x:=⟨_,List.getElem?_eq_getElem hkl'⟩
 obtain⟨g0,off,rfl,hp⟩:=HH.out.2.2.1.row k x hx;have hg:=HH.out.2.2.1.good x (List.mem_of_getElem? hx);obtain⟨cur,ty,fr,c1,c2,c3⟩:=hp;obtain⟨ko,kc,hkv,_,_⟩:=hg.key.form;obtain⟨xo,xc,hxv,_,_⟩:=hg.val.form;obtain⟨kn,hkn⟩:∃n,n=x.kb.length:=⟨_,rfl⟩
 obtain⟨xn,hxn⟩:∃n,n=x.vb.length:=⟨_,rfl⟩
 obtain⟨gb,hgb⟩:∃gb,gb=x.gone:=⟨_,rfl⟩
 have hcs:x.cells=#[.slice ko kn kc,.bool gb,.slice xo xn xc]:=by unfold BN.cells;rw[hkv,hxv,hkn,hxn,hgb]
 obtain⟨C,hC⟩:∃C,C=x.cells:=⟨_,rfl⟩
 have hsz:C.size=3:=by rw[hC];rfl
 have hone:∀v∈C.toList,v.oneCell'=true:=by rw[hC,hcs];simp[Value.oneCell']
 have hq0:C[0]?=some (.slice ko kn kc):=by rw[hC,hcs];rfl
 have hq1:C[1]?=some (.bool gb):=by rw[hC,hcs];rfl
 have hq2:C[2]?=some (.slice xo xn xc):=by rw[hC,hcs];rfl
 rw[←hC,hsz] at c2 c3;have hof:=fun w1 (a:Adds w w1)=>Tv (hg.key.Af a (fun _ _ h=>h))
 rw[hkv, ←hkn] at hof;obtain⟨K,hK⟩:∃K,K=AK (DG x.kb):=⟨_,rfl⟩
 have hks:K.size=32:=by rw[hK,AO,De]
 have hk1:∀v∈K.toList,v.oneCell'=true:=by rw[hK];exact Ao _
 rw[←hK] at hof;have htk:l.take (k+1)=l.take k ++ [x]:=by rw[List.take_add_one,hx];rfl
 have HC:=(hIq (hst.world.row c1 id) (aIq c2 (aIq c3 (aIq hsz hone))))
 have HQ:=(hIq hq0 (aIq hq1 hq2))
 have HX:=(hIq hx (aIq htk (aIq hg (aIq hxv (aIq hxn hgb)))))
 have HOF:=(hIq hof (aIq hK (aIq hks hk1)))
 clear hk h32 hst hall hkm hal hgood hkl hx hg c1 c2 c3 hkv hxv hkn hxn hgb hcs hof hK hks hk1 htk hC hsz hone hq0 hq1 hq2
 go_upto_region 7 with(first
  | fail
  | ((with_reducible show zOq (.load 131 _));refine AG rfl 131 _ rfl g0 (off+k*3) rfl HC.out.1 Tryz.underlying131 rfl QD (by have:=HC.out.2.1;omega) C HC.out.2.2.1 ?_)
  | ((with_reducible show zOq (.alloc 131));refine AH rfl 131 rfl (.agg ZR) HZR.out.1 ?_;dsimp only[Value.cells];try simp only[World.size_alloc])
  | ((with_reducible show zOq (.store 131 _ _));refine AD rfl 131 _ _ rfl wr.heap.size 0 C rfl rfl (heap_alloc_new _ _) (by rw[QD,HC.out.2.2.2.1]) (by rw[HC.out.2.2.2.1,HZR.out.2];exact Nat.le_refl _) HC.out.2.2.2.2 C (by rw[AJ _ _ (by rw[Array.length_toList,Array.length_toList,HC.out.2.2.2.1,HZR.out.2])]) ?_))
 refine Bs (fun wx hwx=>?_);have ax:Adds wr wx:=by rw[hwx];exact((Ch.refl _ _).alloc _).setRow (.inr (Nat.le_refl _)) _
 have rx:wx.heap[wr.heap.size]?=some (.cells C 131 (0,0)):=by rw[hwx];exact AF (heap_alloc_new wr (.cells ZR 131)) _
 have q0:=AE rx HQ.out.1;have AX:=(hIq (HS.out.world.trans ax (fun _=>fEq)) (aIq ax rx))
 clear ax rx hwx;by_cases h32:x.kb.length=32
 · have e3:Da x.kb=0:=by unfold Da;rw[if_pos h32]
   rw[e3] at HOF;have HE:=Lib.hid h32;clear e3 h32;go_wp2_with fail;refine(HOF.out.1 _ AX.out.1).mono ?_;rintro e w7 ⟨rfl,a7⟩;have A7:=(hIq (AX.out.1.trans a7 (fun _=>fEq)) (aIq (AX.out.2.1.trans a7 (fun _=>fEq)) (a7.row AX.out.2.2 id)))
   clear a7 q0
   go_upto_region 10 with(first
    | fail
    | ((with_reducible show zOq (.alloc 47));refine AH rfl 47 rfl (.agg Z) HZ.out.1 ?_;dsimp only[Value.cells];try simp only[World.size_alloc])
    | ((with_reducible show zOq (.store 47 _ _));refine AD rfl 47 _ _ rfl w7.heap.size 0 K rfl rfl (heap_alloc_new _ _) (by rw[Aa,HOF.out.2.2.1]) (by rw[HZ.out.2,HOF.out.2.2.1];exact Nat.le_of_eq (Nat.zero_add _)) HOF.out.2.2.2 K (by rw[AJ _ _ (by rw[Array.length_toList,Array.length_toList,HZ.out.2,HOF.out.2.2.1])]) ?_))
   refine Bs (fun w8 hw8=>?_);have a8:Adds w7 w8:=by rw[hw8];exact((Ch.refl _ _).alloc _).setRow (.inr (Nat.le_refl _)) _
   have r8:w8.heap[w7.heap.size]?=some (.cells K 47 (0,0)):=by rw[hw8];exact AF (heap_alloc_new w7 (.cells Z 47)) K
   have rr:=a8.row A7.out.2.2 id;have q1:=AE rr HQ.out.2.1;have q2:=AE rr HQ.out.2.2;obtain⟨D,hD⟩:∃D,D=x.wm.cells:=⟨_,rfl⟩
   have hwg:=BN.Fw HX.out.2.2.1 HE.out;have hds:D.size=34:=by rw[hD];exact Wm.size hwg.key
   have hd1:∀v∈D.toList,v.oneCell'=true:=by rw[hD];exact Wm.one hwg
   have hbu:=RZ K (.bool gb) (.slice xo xn xc) HOF.out.2.2.1 rfl rfl
   have hde:K++#[.bool gb,.slice xo xn xc]=D:=by
    have e4:DG x.kb=x.kb:=by unfold DG;rw[if_pos HE.out]
    rw[hD,HOF.out.2.1,e4,HX.out.2.2.2.2.1,HX.out.2.2.2.2.2, ←HX.out.2.2.2.1];apply Array.ext';simp[Wm.cells,AK,BN.wm]
   rw[hde] at hbu;obtain⟨i0,z0,p1,p2,p3,p4,p5⟩:=J2;have HI:=(hIq p1 (aIq p2 (aIq p3 (aIq p4 p5))))
   have H8:=(hIq (A7.out.1.trans a8 (fun _=>fEq)) (aIq (A7.out.2.1.trans a8 (fun _=>fEq)) (aIq r8 (aIq hds (aIq hd1 (aIq hbu hD))))))
   clear a8 r8 rr hw8 hds hd1 hbu hde hwg hD p1 p2 p3 p4 p5
   go_wp2_with (first
    | fail
    | ((with_reducible show zOq (.load 47 _));refine AG rfl 47 _ rfl w7.heap.size 0 rfl H8.out.2.2.1 Tryz.underlying47 rfl Aa (by rw[HOF.out.2.2.1];omega) K (by have:=HOF.out.2.2.1;simp[←this]) ?_)
    | ((with_reducible show zOq (.build 134 _));refine En rfl 134 0 1 2 _ _ _ rfl (.agg K) (.bool gb) (.slice xo xn xc) rfl rfl rfl D H8.out.2.2.2.2.2.1 ?_)
    | ((with_reducible show zOq (.buildSlice 132 _ _));refine BC rfl 132 _ rfl 134 i0 z0 (.agg D) rfl Tryz.underlying132 HI.out.1 HI.out.2.1 (by rw[HI.out.2.2.1];decide) (by rw[HI.out.2.2.1];decide) (by rw[HI.out.2.2.1];exact H8.out.2.2.2.1) ?_)
    | (at_builtin;refine Hd rfl _ _ 132 rfl 134 i0 z0 34 64 Tryz.underlying132 HI.out.1 HI.out.2.1 HI.out.2.2.1 HI.out.2.2.2.1 HI.out.2.2.2.2 (by decide) (.slice oo k oc) k (BF Wm.cells all) rfl (by have:=(HS.out.row.adds (H8.out.2.1.alloc (.cells D 134))).base (b':=0) (fun _ _=>Nat.zero_le _);rw[HALL.out.2] at this;exact this) ⟨w8.heap.size,0,none⟩ 1 1 D.toList rfl (by rw[Array.length_toList,H8.out.2.2.2.1]) (CX (heap_alloc_new w8 (.cells D 134))) H8.out.2.2.2.2.1 (by have:=HL.out;have:=HK.out.2.2;unfold maxLen;omega) (by have:=HL.out;have:=HK.out.2.2;omega) ?_;intro v' w4 own' grow' loc'))
   obtain⟨o6,c6,hv6⟩:=Ad own';subst hv6;have hA6:Adds w w4:=(H8.out.1.alloc _).grown grow' (fun j hj=>.inr (HS.out.row.lt j hj).1)
   have H6:RowKit.Hid (Rp w w4 (.slice o6 (k+1) c6) ((l.take (k+1)).map BN.wm)):=Lib.hid ⟨by
    have hfl:BF Wm.cells ((l.take (k+1)).map BN.wm)=BF Wm.cells all++D.toList:=by rw[HX.out.2.1,List.map_append,Ct,HALL.out.1,H8.out.2.2.2.2.2.2];simp[BF]
    have hln:((l.take (k+1)).map BN.wm).length=k+1:=by rw[HX.out.2.1,List.map_append, ←HALL.out.1,List.length_append,HALL.out.2];rfl
    unfold DV;rw[hfl,hln];refine own'.base (fun j hj=>?_);rcases loc' with e|e
    · rw[e] at hj
      exact(HS.out.row.lt j hj).1
    have h1:=e j hj;have h2:=H8.out.1.size;simp at h1;omega,hA6⟩
   have HT:RowKit.Hid (∀y∈l.take (k+1),y.kb.length=32):=Lib.hid (fun y hy=>by
    rw[HX.out.2.1] at hy;rcases List.mem_append.1 hy with hy|hy
    · exact HK.out.2.1 y hy
    rw[List.mem_singleton.1 hy];exact HE.out)
   clear own' grow' loc' hA6;go_wp2_with fail;go_roundg (gk-1)
   case measure=>have:=HK.out.1;omega
   exact⟨k+1,by first|(simp;done)|(simp[hwk];done),by have:=HK.out.1;omega,HT.out,H6.out⟩
 have e3:Da x.kb=3:=by unfold Da;rw[if_neg h32]
 rw[e3] at HOF;have HE:=Lib.hid h32;clear e3 h32;go_wp2_with fail;refine(HOF.out.1 _ AX.out.1).mono ?_;rintro e w7 ⟨rfl,a7⟩;have A7:=Lib.hid (AX.out.1.trans a7 (fun _=>fEq));clear a7 q0
 go_wp2_with (first
  | fail
  | ((with_reducible show zOq (.alloc 47));refine AH rfl 47 rfl (.agg Z) HZ.out.1 ?_;dsimp only[Value.cells];try simp only[World.size_alloc])
  | ((with_reducible show zOq (.store 47 _ _));refine AD rfl 47 _ _ rfl w7.heap.size 0 K rfl rfl (heap_alloc_new _ _) (by rw[Aa,HOF.out.2.2.1]) (by rw[HZ.out.2,HOF.out.2.2.1];exact Nat.le_of_eq (Nat.zero_add _)) HOF.out.2.2.2 K (by rw[AJ _ _ (by rw[Array.length_toList,Array.length_toList,HZ.out.2,HOF.out.2.2.1])]) ?_))
 go_ret;exact⟨3,σ,root,L,rfl,HH.out.1.stay ((A7.out.alloc _).setRow (.inr A7.out.size) _) _,.inl ⟨rfl,⟨x,List.mem_of_getElem? HX.out.1,HE.out⟩,rfl⟩,.inl ⟨by decide,rfl⟩⟩
theorem RA (h:Dct w0 w d v s G room σ root L M tn) {ao:Option Addr} {l:List BN} (cap:Nat) (hl:Ga w0 ao l) (hnl:l.length*56≤140737488351232) (htn:tn≤500000000) :
 Calls Tryz.prog 15 #[.pointer (some ⟨d,0,none⟩),.slice ao l.length cap] w (VB w0 w d v s G room σ L M tn (258*l.length) l):=(Ji h cap hl hnl htn).mono fun e w' ⟨er,σ',r,L',he,hs,hb,_⟩=>⟨er,σ',r,L',he,hs,hb⟩
end
section
variable {w0 w w' : World} {d v s room tn : Nat} {G : Nat→Prop} {σ σ' : AA Nd} {root r : Int} {L L' : AM} {M M' : Nmd} {x key : List UInt8} {a : Cb}
def DW (a:Cb):Nat:=if a.kind≤1 then 258 else if a.kind=2 then 258*a.l.length else 0
theorem DStep.pre {w1:World} {n m:Nat} (h:DStep w0 w1 w' d v s G room σ σ' r L' M' tn n) (ha:Adds w w1) (hn:n≤m):DStep w0 w w' d v s G room σ σ' r L' M' tn m:=⟨h.dct,(Adds.but ha).then h.but,by have:=h.live;omega⟩
structure Kept (M M':Nmd) (x:List UInt8):Prop where
 stay:∀p∈M,p.1≠x→p∈M'
 only:∀p∈M',p∈M∨p.1=x
 few:M.length≤16→M'.length≤16
 fit:(∀p∈M,CG p.1=true)→∀p∈M',CG p.1=true
theorem Kept.refl (M:Nmd) (x:List UInt8):Kept M M x:=⟨fun _ h _=>h,fun _ h=>.inl h,fun h=>h,fun h=>h⟩
theorem Kept.cut (M:Nmd) (x:List UInt8):Kept M (I3 M x) x:=⟨fun p hp hx=>List.mem_filter.2 ⟨hp,by simpa using hx⟩,fun p hp=>.inl (List.mem_filter.1 hp).1,fun h=>Nat.le_trans (List.length_filter_le _ _) h,fun h p hp=>h p (List.mem_filter.1 hp).1⟩
def WZ (w0 w:World) (d v s:Nat) (G:Nat→Prop) (room:Nat) (σ:AA Nd) (M:Nmd) (tn:Nat) (a:Cb) (e:Ending) (w':World):Prop :=
 e=.returned (.tuple #[])∧∃σ' r L' M',DStep w0 w w' d v s G room σ σ' r L' M' tn (DW a)∧Kept M M' a.nm
theorem XI (h:Dct w0 w d v s G room σ root L M tn) (ha:a.Good w0) (hn:a.l.length*56≤140737488351232) (htn:tn≤400000000):Calls Tryz.prog 16 #[.pointer (some ⟨d,0,none⟩),.agg a.cells] w (WZ w0 w d v s G room σ M tn a):=by
 have haw:a.Good w:=ha.Af h.world (fun _=>fEq);obtain⟨C,hC⟩:∃C,C=a.cells:=⟨_,rfl⟩
 obtain⟨S,hS⟩:∃S,S=BH a.nm:=⟨_,rfl⟩
 obtain⟨kd,hkd⟩:∃kd,kd=a.kind:=⟨_,rfl⟩
 obtain⟨kv,hkv⟩:∃kv,kv=a.kv:=⟨_,rfl⟩
 obtain⟨vv,hvv⟩:∃vv,vv=a.vv:=⟨_,rfl⟩
 have q0:C[0]?=some (.int .u8 kd):=by rw[hC,hkd];rfl
 have q1:C[1]?=some (.string S):=by rw[hC,hS];rfl
 have q2:C[2]?=some kv:=by rw[hC,hkv];rfl
 have q3:C[3]?=some vv:=by rw[hC,hvv];rfl
 have q4:C[4]?=some (.slice a.ao a.l.length a.cap):=by rw[hC];rfl
 obtain⟨len,hlen⟩:∃len,len=a.l.length:=⟨_,rfl⟩
 rw[←hlen] at q4;have HQ:=(hIq q0 (aIq q1 (aIq q2 (aIq q3 q4))))
 have HH:=(hIq h (aIq ha (aIq haw (aIq hn htn))))
 have HE:=(hIq hS (aIq hkd (aIq hkv (aIq hvv hlen))))
 rw[←hC];clear q0 q1 q2 q3 q4 h ha haw hn htn hC hS hkd hkv hvv hlen;go_enter Tryz.func16,Tryz.ntmps16;go_upto_region 1 with fail;refine Bs (fun w1 hw1=>?_);have a1:Adds w w1:=by rw[hw1];exact(Ch.refl _ _).alloc _
 have r1:w1.heap[w.heap.size]?=some (.cells C 32 (0,0)):=by rw[hw1];exact heap_alloc_new _ _
 have b0:=AE r1 HQ.out.1;have b1:=AE r1 HQ.out.2.1;have b2:=AE r1 HQ.out.2.2.1;have b3:=AE r1 HQ.out.2.2.2.1;have b4:=AE r1 HQ.out.2.2.2.2;have A1:=Lib.hid a1;clear a1 r1 hw1;by_cases k0:kd=0
 · have hc:=Mk (HH.out.1.adds A1.out) (kv:=kv) (vv:=vv) (key:=a.kb) (bs:=a.vb) (by rw[HE.out.2.2.1];exact HH.out.2.2.1.key.Af A1.out (fun _ _ h=>h)) (by rw[HE.out.2.2.2.1];exact HH.out.2.2.1.val.Af A1.out (fun _ _ h=>h)) (fun h0 k hk=>Nat.lt_of_lt_of_le (HH.out.2.2.1.vblk h0 k (by rw[←HE.out.2.2.2.1];exact hk)) A1.out.size) (by have:=HH.out.2.2.2.2;omega)
   have HC:=(hIq hc k0)
   have hdm:DW a=258:=by unfold DW;rw[←HE.out.2.1,k0];rfl
   have HDM:=Lib.hid hdm;subst k0;clear hc hdm;go_wp2_with fail;refine HC.out.1.mono ?_;rintro e w2 ⟨rfl,σ',r,hs⟩;have HS:=Lib.hid hs;clear hs b0 b1 b2 b3 b4;go_wp2;go_end0;exact⟨rfl,σ',r,_,M,HS.out.pre A1.out (by have:=HDM.out;have:=HE.out.2.2.2.2;omega),Kept.refl _ _⟩
 ·
  by_cases k1:kd=1
  · have hc:=PD (HH.out.1.adds A1.out) (kv:=kv) (key:=a.kb) (by rw[HE.out.2.2.1];exact HH.out.2.2.1.key.Af A1.out (fun _ _ h=>h)) (by have:=HH.out.2.2.2.2;omega)
    have HC:=(hIq hc k1)
    have hdm:DW a=258:=by unfold DW;rw[←HE.out.2.1,k1];rfl
    have HDM:=Lib.hid hdm;subst k1;clear hc hdm;go_wp2_with fail;refine HC.out.1.mono ?_;rintro e w2 ⟨rfl,σ',r,hs⟩;have HS:=Lib.hid hs;clear hs b0 b1 b2 b3 b4;go_wp2;go_end0;exact⟨rfl,σ',r,_,M,HS.out.pre A1.out (by have:=HDM.out;have:=HE.out.2.2.2.2;omega),Kept.refl _ _⟩
  ·
   by_cases k2:kd=2
   · have hc:=RA (HH.out.1.adds A1.out) a.cap HH.out.2.1.raws HH.out.2.2.2.1 (by have:=HH.out.2.2.2.2;omega)
     rw[←HE.out.2.2.2.2] at hc;have HC:=(hIq hc k2)
     have hdm:DW a=258*a.l.length:=by unfold DW;rw[←HE.out.2.1,k2];rfl
     have HDM:=Lib.hid hdm;subst k2;clear hc hdm;go_wp2_with fail;refine HC.out.1.mono ?_;rintro e w2 ⟨er,σ',r,L',rfl,hs,_⟩;have HS:=Lib.hid hs;clear hs b0 b1 b2 b3 b4;go_wp2;go_end0;exact⟨rfl,σ',r,L',M,HS.out.pre A1.out (by have:=HDM.out;have:=HE.out.2.2.2.2;omega),Kept.refl _ _⟩
   ·
    by_cases k7:kd=7
    · have hc:=Mu (HH.out.1.adds A1.out) HH.out.2.1.nm HH.out.2.2.2.2
      rw[←HE.out.1] at hc;have HC:=(hIq hc k7)
      have hdm:DW a=0:=by unfold DW;rw[←HE.out.2.1,k7];rfl
      have HDM:=Lib.hid hdm;subst k7;clear hc hdm;go_wp2_with fail;refine HC.out.1.mono ?_;rintro e w2 ⟨σ',M',er,rfl,hs,hc⟩;have HS:=(hIq hs hc)
      clear hs hc b0 b1 b2 b3 b4;go_wp2;go_end0
      exact⟨rfl,σ',_,_,M',HS.out.1.pre A1.out (by have:=HDM.out;have:=HE.out.2.2.2.2;omega),by
       rcases HS.out.2 with⟨_,_,e⟩|⟨_,_,_,e⟩|⟨h0,hno,_,e⟩
       · rw[e];exact Kept.refl _ _
       · rw[e];exact Kept.refl _ _
       rw[e];unfold Ek at h0;by_cases hn:CG a.nm=false
       · rw[if_pos hn] at h0;cases h0
       rw[if_neg hn] at h0;refine⟨fun p hp _=>List.mem_cons_of_mem _ hp,fun p hp=>(List.mem_cons.1 hp).elim (fun e=>.inr (by rw[e])) .inl,fun _=>?_,fun hf p hp=>(List.mem_cons.1 hp).elim (fun e=>by rw[e];simpa using hn) (hf p)⟩;by_cases hm:16≤M.length
       · rw[if_pos hm] at h0;cases h0
       simp only[List.length_cons];omega⟩
    ·
     by_cases k8:kd=8
     · have hc:=NK (HH.out.1.adds A1.out) HH.out.2.1.nm (by have:=HH.out.2.2.2.2;omega)
       rw[←HE.out.1] at hc;have HC:=(hIq hc k8)
       have hdm:DW a=0:=by unfold DW;rw[←HE.out.2.1,k8];rfl
       have HDM:=Lib.hid hdm;subst k8;clear hc hdm;go_wp2_with fail;refine HC.out.1.mono ?_;rintro e w2 ⟨σ',r',L',er,rfl,hs,_⟩;have HS:=Lib.hid hs;clear hs b0 b1 b2 b3 b4;go_wp2;go_end0;exact⟨rfl,σ',r',L',M,HS.out.pre A1.out (by have:=HDM.out;have:=HE.out.2.2.2.2;omega),Kept.refl _ _⟩
     ·
      by_cases k9:kd=9
      · have hc:=SA (HH.out.1.adds A1.out) HH.out.2.1.nm
        rw[←HE.out.1] at hc;have HC:=(hIq hc k9)
        have hdm:DW a=0:=by unfold DW;rw[←HE.out.2.1,k9];rfl
        have HDM:=Lib.hid hdm;subst k9;clear hc hdm;go_wp2_with fail;refine HC.out.1.mono ?_;rintro e w2 ⟨σ',M',er,rfl,hs,hc⟩;have HS:=(hIq hs hc)
        clear hs hc b0 b1 b2 b3 b4;go_wp2;go_end0
        exact⟨rfl,σ',_,_,M',HS.out.1.pre A1.out (by have:=HDM.out;have:=HE.out.2.2.2.2;omega),by
         rcases HS.out.2 with⟨_,_,e⟩|⟨_,_,e⟩
         · rw[e];exact Kept.refl _ _
         rw[e];exact Kept.cut _ _⟩
      ·
       clear b1 b2 b3 b4;go_wp2;go_end0;exact⟨rfl,σ,root,L,M,HH.out.1.stay A1.out _,Kept.refl _ _⟩
end
end Go.Proofs.YtngbdbpofifimaaGreat.Law15
namespace Go.Proofs.YtngbdbpofifimaaGreat.Store
open Go.RowKit Go.Proofs.YtngbdbpofifimaaGreat.ShaW Go.Proofs.YtngbdbpofifimaaGreat.Path
open Go.Maps (Keyed keyOf_int_mk)
section
variable {σ : AA Nd} {R : List Int} {k k1 k2 : Wk} {a b x : Int}
def Up (l:List Int):Prop:=∀i x y,l[i]?=some x→l[i+1]?=some y→x<y
theorem SH (H:Wanting σ R k.todo.length k):k.todo.length+(QH k.cnt (Ar σ)).length=(Ar σ).length:=by
 have hp:k.todo.Perm (((Ar σ).filter fun h:Nat => !decide (k.cnt (h:Int)=0)).map fun n:Nat=>(n:Int)):=by
  refine(List.perm_ext_iff_of_nodup H.nodup (List.Pairwise.map _ (fun a b h e=>h (Int.ofNat_inj.1 e)) (E9.filter _))).2 fun y=>?_
  constructor
  · intro hy
    obtain⟨z,hz⟩:=IQ (H.there y hy);obtain⟨m,hm,e⟩:=(B9 y).1 ⟨z,hz⟩;refine List.mem_map.2 ⟨m,List.mem_filter.2 ⟨hm,?_⟩,e.symm⟩;have:=(H.mem y).1 hy;rw[←e];simp;omega
  intro hy;obtain⟨m,hm,e⟩:=List.mem_map.1 hy;have h2:=(List.mem_filter.1 hm).2;rw[e] at h2;refine(H.mem y).2 ?_;simp at h2;omega
 rw[hp.length_eq,List.length_map];unfold QH;rw[List.length_map]
 have:∀(l:List Nat) (p:Nat→Bool),(l.filter fun h => !p h).length+(l.filter p).length=l.length:=fun l p=>by
  induction l with
  | nil=>rfl
  | cons z l ih =>
   cases hz:p z<;>simp[hz]<;>omega
 exact this _ _
structure Xs (σ:AA Nd) (la lb lc ld:List Int):Prop where
 small:∀x,x∈la∨x∈lb∨x∈lc∨x∈ld→0≤x∧x≤65536
 both:∀x,x∈lc↔x∈la∨x∈lb
 nodup:lc.Nodup
 upc:Up lc
 upd:Up ld
 lost:∀x∈ld,has σ x=true∧x∉lc
 all:lc.length+ld.length=σ.used
 lenA:la.length≤65536
 lenB:lb.length≤65536
def YU (x:Int) (S:List Int):List Int:=if x∈S then S else x::S
noncomputable abbrev Wq:Value→Option (DataW Value×List MemPlace):=plainElem Tryz.prog 4
structure YS (w:World) (b n:Nat) (S:List Int):Prop where
 ex:∃D,w.ownsMap Tryz.prog 3 Wq b n D∧Maps.size D=S.length∧∀x:Int,D.atKey (ky x) (.lit (.bool false))=.lit (.bool (decide (x∈S)))∧Maps.has D (ky x)=decide (x∈S)
end
section
variable {w : World} {s : Nat} {F : Nat→Prop} {σ : AA Nd} {R : List Int} {ao : Option Addr}
def XZ (w w':World) (σ:AA Nd) (R:List Int) (pick:Wk→List Int) (e:Ending):Prop :=
 ∃(qo:Option Addr) (qc:Nat) (l:List Int),e=.returned (.tuple #[.slice qo l.length qc,.int .i64 (chk σ R)])∧w'.ownsRow w.heap.size 3 1 (.slice qo l.length qc) l.length (Cf l)∧Adds w w' ∧
  ((chk σ R≠0∧l = [])∨(chk σ R=0∧∃k,Wanting σ R k.todo.length k∧l=pick k))
end
end Go.Proofs.YtngbdbpofifimaaGreat.Store
namespace Go.Proofs.YtngbdbpofifimaaGreat.Store
open Go.RowKit Go.Proofs.YtngbdbpofifimaaGreat.ShaW Go.Proofs.YtngbdbpofifimaaGreat.Path
section
variable {σ : AA Nd} {R : List (Int×AM)} {l l' : List Int} {k k' : Wk} {x h : Int}
structure LX (σ:AA Nd) (l:List Int):Prop where
 good:Good σ
 held:∀k,k≠0→Store.held σ k=(l.count k:Nat)
theorem Np (R:List (Int×AM)) (k:Int):roots R k=(R.map Prod.fst).count k:=by
 unfold roots;rw[List.count,List.countP_map];rfl
theorem Roots.Va (h:Roots σ R) (hl:∀k,k≠0→l.count k=(R.map Prod.fst).count k):LX σ l:=⟨h.good,fun k hk=>by rw[h.held k hk,Np,hl k hk]⟩
theorem LX.mem (S:LX σ l) (p:Int) (hp:1≤Store.held σ p):p∈l:=by
 have h0:p≠0:=fun e=>by rw[e,J8] at hp;omega
 rw[S.held p h0] at hp;exact List.count_pos_iff.1 (by omega)
theorem PA {h:Int} {y:Nd×Nat} (hy:σ.get? h=some y):σ.count h=y.2:=by unfold AA.count;rw[hy];rfl
theorem LX.cnt (S:LX σ l) (W:Wanting σ l k.todo.length k) (hx:has σ h=true):k.cnt h=σ.count h:=by
 obtain⟨y,hy⟩:=IQ hx;have h1:=W.count S.good (S.mem) hy;rw[S.held h (E6 hy)] at h1;rw[PA hy];omega
theorem Ny {n:Nat} (hn:n∈Ar σ):has σ (n:Int)=true:=by
 obtain⟨y,hy⟩:=(B9 (n:Int)).2 ⟨n,hn,rfl⟩;exact U4 hy
theorem LX.LK (S:LX σ l) (W:Wanting σ l k.todo.length k):LK σ k.cnt = []:=by
 unfold Store.LK Fe;refine List.filterMap_eq_nil_iff.2 fun n hn=>?_
 rw[if_pos (by rw[S.cnt W (Ny hn)])]
theorem LX.lost (S:LX σ l) (W:Wanting σ l k.todo.length k):QH k.cnt (Ar σ) = []:=by
 unfold QH;rw[List.filter_eq_nil_iff.2 fun n hn=>?_]
 · rfl
 obtain⟨y,hy⟩:=(B9 (n:Int)).2 ⟨n,hn,rfl⟩;have:=(W.mem (n:Int)).1 (W.full S.good S.mem hy);simp;omega
end
end Go.Proofs.YtngbdbpofifimaaGreat.Store
