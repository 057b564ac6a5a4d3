/- Laws of the layers below. -/
import Derived.Test.YtooijgcildbnlaaGreatQj28
import Derived.Test.YtooijgcildbnlaaGreatQj30
import Derived.Test.YtooijgcildbnlaaGreatQj33
set_option maxHeartbeats 3200000
set_option maxRecDepth 100000
set_option linter.unusedVariables false
namespace Go.Proofs.YtooijgcildbnlaaGreat.Store
open Go.RowKit Go.Proofs.YtooijgcildbnlaaGreat.ShaW Go.Proofs.YtooijgcildbnlaaGreat.Path Go.Proofs.YtooijgcildbnlaaGreat.BE
theorem VS (ao:Option Addr) (len cap:Nat) (h:len≠32) (w:World) :
 Calls Tryz.prog 120 #[.slice ao len cap] w fun e w'=>e=.returned (.tuple #[.agg (AM (List.replicate 32 0)),.int .i64 3])∧Adds w w':=by
 have hne:¬(len:Int)=32:=by omega
 clear h;go_enter Tryz.func120,Tryz.ntmps120
 go_wp2_with (first
  | fail
  | ((with_reducible show zOq (.alloc 24));refine AI rfl 24 rfl (.agg (AM (List.replicate 32 0))) GJ ?_;dsimp only[Value.cells];try simp only[World.size_alloc])
  | ((with_reducible show zOq (.store 24 _ _));refine AE rfl 24 _ _ rfl w.heap.size 0 (AM (List.replicate 32 0)) rfl rfl (heap_alloc_new _ _) (by rw[AW];rfl) (Nat.le_of_eq (Nat.zero_add _)) (Ah _) (AM (List.replicate 32 0)) (by rw[AK _ _ (by rw[Array.length_toList,Array.length_toList];rfl)]) ?_))
 exact Ak (p:=2) (u:=3) rfl rfl (AG (heap_alloc_new _ _) _) Tryz.underlying24 rfl (by rw[AW];rfl) rfl ⟨rfl,((Ch.refl _ _).alloc _).setRow (.inr (Nat.le_refl _)) _⟩
theorem ND {w:World} {ao:Option Addr} {len cap:Nat} {bs:List UInt8} (h:Bytes w (.slice ao len cap) bs) (h0:0<bs.length):∃g off,ao=some ⟨g,off,none⟩∧CO w g off (AM bs):=by
 obtain⟨_,ha⟩:=h.at;obtain⟨g,off,e,_⟩:=ha 0 bs[0] (List.getElem?_eq_getElem h0);refine⟨g,off,e,?_⟩
 have:=CO.Is (w:=w) (g:=g) (o:=off) (m:=bs.length) (cs:=bs.map bv) h0 (by simp) (fun i hi=>by
  obtain⟨g',off',e',hc⟩:=ha i bs[i] (List.getElem?_eq_getElem hi);rw[e] at e';injection e' with e';injection e' with e1 e2;subst e1 e2;rw[hc,List.getElem?_map,List.getElem?_eq_getElem hi];rfl)
 exact this
theorem Ko {w:World} {v:Value} {bs:List UInt8} (h:Bytes w v bs) (hl:bs.length=32) :
 Calls Tryz.prog 120 #[v] w fun e w'=>e=.returned (.tuple #[.agg (AM bs),.int .i64 0])∧Adds w w':=by
 obtain⟨ao,cap,rfl,hcl,_⟩:=h.form;rw[hl] at h hcl ⊢;obtain⟨g,off,rfl,cur,ty,fr,c1,c2,c3⟩:=ND h (by omega);obtain⟨Z,hZ⟩:∃Z,Z=AM (List.replicate 32 0):=⟨_,rfl⟩
 have hzd:=GJ;have hZs:Z.size=32:=by rw[hZ];rfl
 rw[←hZ] at hzd;have HZ:=(hIq hzd hZs)
 have hks:(AM bs).size=32:=by rw[AN];exact hl
 have hk1:=Ah bs;rw[hks] at c2 c3;obtain⟨K,hK⟩:∃K,K=AM bs:=⟨_,rfl⟩
 rw[←hK] at hks hk1 c3 ⊢;have HK:=(hIq hks (aIq hk1 c3))
 have C1:=(hIq (AJ c1 (.cells Z 24)) c2)
 have hlt:=Ao c1
 have ha:∀w0,(Instr.arrayAt 24 (.slice (some ⟨g,off,none⟩) 32 cap)).run Tryz.prog w0=.ok (.pointer (some ⟨g,off,none⟩)) w0:=fun w0=>by
  unfold Instr.arrayAt;simp[Go.underlying,Tryz.underlying24]
 clear h hcl hl hZ hzd hZs hks hk1 hK c1 c2 c3;go_enter Tryz.func120,Tryz.ntmps120
 go_wp2_with (first
  | fail
  | ((with_reducible show zOq (.alloc 24));refine AI rfl 24 rfl (.agg Z) HZ.out.1 ?_;dsimp only[Value.cells];try simp only[World.size_alloc])
  | ((with_reducible show zOq (.load 24 _));refine AF rfl 24 _ rfl g off rfl C1.out.1 Tryz.underlying24 rfl AW (by have:=C1.out.2;omega) K HK.out.2.2 ?_)
  | ((with_reducible show zOq (.store 24 _ _));refine AE rfl 24 _ _ rfl w.heap.size 0 K rfl rfl (heap_alloc_new _ _) (by rw[AW,HK.out.1]) (by rw[HK.out.1,HZ.out.2];omega) HK.out.2.1 K (by rw[AK _ _ (by rw[Array.length_toList,Array.length_toList,HK.out.1,HZ.out.2])]) ?_))
 exact Ak (p:=2) (u:=3) rfl rfl (AG (heap_alloc_new _ _) _) Tryz.underlying24 rfl (by rw[AW,HK.out.1]) rfl ⟨rfl,((Ch.refl _ _).alloc _).setRow (.inr (Nat.le_refl _)) _⟩
end Go.Proofs.YtooijgcildbnlaaGreat.Store
namespace Go.Proofs.YtooijgcildbnlaaGreat.Store
open Go.RowKit Go.Proofs.YtooijgcildbnlaaGreat.ShaW Go.Proofs.YtooijgcildbnlaaGreat.Path
theorem Hs:(Tryz.prog.info? 85).bind (·.zero)=some (.agg (AM (List.replicate 32 0))):=by kernel_rfl
theorem BI:(Tryz.prog.info? 85).map (·.size)=some 32:=by kernel_rfl
def Fq (w:World) (v:Value):Prop:=v=.pointer none∨∃s,v=.pointer (some ⟨s,0,none⟩)∧w.heap[s]?=some (.cells #[.pointer none,.pointer none,.int .i64 0] 97 (0,0))
theorem Fq.adds {w w':World} {v:Value} (h:Fq w v) (ha:Adds w w'):Fq w' v:=by
 rcases h with rfl|⟨s,rfl,hc⟩
 · exact .inl rfl
 exact .inr ⟨s,rfl,ha.row hc id⟩
theorem Fq.ptr {w:World} {v:Value} (h:Fq w v):∃p,v=.pointer p:=by
 rcases h with rfl|⟨s,rfl,_⟩
 · exact⟨_,rfl⟩
 exact⟨_,rfl⟩
section
variable {w : World} {v : Value}
theorem Qz (h:Fq w v):Calls Tryz.prog 111 #[v] w fun e w'=>e=.returned (.bool true)∧w=w':=by
 rcases h with rfl|⟨s,rfl,hc⟩
 · go_enter Tryz.func111,Tryz.ntmps111
   go_wp2;go_ret;exact⟨rfl,rfl⟩
 have c1:=AH hc (i:=1) rfl;clear hc;go_enter Tryz.func111,Tryz.ntmps111;go_wp2;go_ret;exact⟨rfl,rfl⟩
theorem Sx (h:Fq w v):Calls Tryz.prog 50 #[v] w fun e w'=>e=.returned (.pointer none)∧w=w':=by
 obtain⟨p,rfl⟩:=h.ptr;have HN:=Lib.hid (Qz h);clear h;go_enter Tryz.func50,Tryz.ntmps50;go_wp2_with fail;refine HN.out.mono ?_;rintro e w1 ⟨rfl,rfl⟩;go_wp2;go_ret;exact⟨rfl,rfl⟩
theorem K9 (fn:Fn) (first cap:Array Value) (w:World):(Instr.makeFunc fn first cap).run Tryz.prog w=.ok (.func fn first cap) w:=rfl
end
end Go.Proofs.YtooijgcildbnlaaGreat.Store
namespace Go.Proofs.YtooijgcildbnlaaGreat.Law15
open Go.RowKit Go.Sort Go.Proofs.YtooijgcildbnlaaGreat.ShaW Go.Proofs.YtooijgcildbnlaaGreat.Path Go.Proofs.YtooijgcildbnlaaGreat.Store Go.Proofs.YtooijgcildbnlaaGreat.BE Go.Proofs.YtooijgcildbnlaaGreat.Law14
def Mx (v s:Nat) (root:Int):Array Value:=#[.pointer (some ⟨v,0,none⟩),.pointer (some ⟨s,0,none⟩),.int .i64 root]
structure Dct (w0 w:World) (d v s:Nat) (G:Nat→Prop) (room:Nat) (σ:AD Nd) (root:Int) (L:AQ) (M:Nmd) (tn:Nat):Prop where
 cell:w.heap[d]?=some (.cells (Mx v s root) 97 (0,0))
 vs:Vs w0 w v s σ (ED M) (fun k=>k=d∨G k)
 rts:BH σ ((root,L)::Ir M)
 room:σ.room=room
 total:Store.total σ≤tn
 base:w0.heap.size≤d∧¬G d
section
variable {w0 w w' : World} {d v s room tn : Nat} {G : Nat→Prop} {σ σ' : AD Nd} {root r : Int} {L L' : AQ} {M M' : Nmd}
theorem Dct.adds (h:Dct w0 w d v s G room σ root L M tn) (a:Adds w w'):Dct w0 w' d v s G room σ root L M tn:=⟨a.row h.cell id,h.vs.adds a,h.rts,h.room,h.total,h.base⟩
theorem Dct.JE (h:Dct w0 w d v s G room σ root L M tn) {tn':Nat} (h1:tn≤tn'):Dct w0 w d v s G room σ root L M tn':=⟨h.cell,h.vs,h.rts,h.room,Nat.le_trans h.total h1,h.base⟩
theorem Dct.world (h:Dct w0 w d v s G room σ root L M tn):Adds w0 w:=h.vs.world
theorem Dct.at (h:Dct w0 w d v s G room σ root L M tn):∃F,At w s F σ:=h.vs.ow.at
theorem Dct.lens (h:Dct w0 w d v s G room σ root L M tn) {x:List UInt8} (hx:x∈Dn M):x.length≤maxLen:=by
 obtain⟨m,_,_,h3,_⟩:=h.vs;exact h3.len x (by rw[CA];exact hx)
theorem Dct.nd (h:Dct w0 w d v s G room σ root L M tn):(Dn M).Nodup:=by
 obtain⟨m,_,_,h3,_⟩:=h.vs;rw[←CA];exact h3.nd
theorem Dct.slots (h:Dct w0 w d v s G room σ root L M tn):σ.slots.length≤65536:=by
 obtain⟨F,hF⟩:=h.at;have:=hF.len;have:=hF.room;omega
theorem Dct.write (hc:w.heap[d]?=some (.cells (Mx v s root) 97 (0,0))) (hv:Vs w0 w v s σ' (ED M) (fun k=>k=d∨G k)) (hr:BH σ' ((r,L')::Ir M)) (h3:σ'.room=room) (h4:Store.total σ'≤tn) (h5:w0.heap.size≤d∧¬G d) :
 Dct w0 (w.setCell ⟨d,2,none⟩ (.int .i64 r)) d v s G room σ' r L' M tn∧But G w (w.setCell ⟨d,2,none⟩ (.int .i64 r)):=by
 have hch:Ch (fun k=>k=d) w (w.setCell ⟨d,2,none⟩ (.int .i64 r)):=by
  have:=(Ch.refl (fun k=>k=d) w).setCell (p:=⟨d,2,none⟩) (.inl rfl) (.int .i64 r);exact this
 exact⟨⟨AT hc 2 _,hv.beside hch (fun k hk=>⟨.inl hk,by rw[hk];exact h5.1⟩),hr,h3,h4,h5⟩,hch.mono (fun k _ hk hg=>h5.2 (by rw[←hk];exact hg))⟩
end
structure DStep (w0 w w':World) (d v s:Nat) (G:Nat→Prop) (room:Nat) (σ σ':AD Nd) (root':Int) (L':AQ) (M':Nmd) (tn n:Nat):Prop where
 dct:Dct w0 w' d v s G room σ' root' L' M' (tn+60000)
 but:But G w w'
 live:Store.live σ'≤Store.live σ+n
section
variable {w0 w w' : World} {d v s room tn : Nat} {G : Nat→Prop} {σ σ' : AD Nd} {root r : Int} {L L' : AQ} {M M' : Nmd}
theorem Dct.stay (h:Dct w0 w d v s G room σ root L M tn) (a:Adds w w') (n:Nat):DStep w0 w w' d v s G room σ σ root L M tn n:=⟨(h.adds a).JE (Nat.le_add_right _ _),Adds.but a,Nat.le_add_right _ _⟩
theorem FO (h:Dct w0 w d v s G room σ root L M tn):Calls Tryz.prog 111 #[.pointer (some ⟨d,0,none⟩)] w fun e w'=>e=.returned (.bool false)∧w=w':=by
 have c1:w.cell? ⟨d,1,none⟩=some (.pointer (some ⟨s,0,none⟩)):=AH h.cell rfl;clear h;go_enter Tryz.func111,Tryz.ntmps111;go_wp2;go_ret;exact⟨rfl,rfl⟩
theorem Mb (h:Dct w0 w d v s G room σ root L M tn):Calls Tryz.prog 105 #[.pointer (some ⟨d,0,none⟩)] w fun e w'=>e=.returned (.int .i64 0)∧w=w':=by
 have HN:=Lib.hid (FO h);clear h;go_enter Tryz.func105,Tryz.ntmps105;go_wp2_with fail;refine HN.out.mono ?_;rintro e w1 ⟨rfl,rfl⟩;go_wp2;go_ret;exact⟨rfl,rfl⟩
def DG (key:List UInt8):List UInt8:=if key.length=32 then key else List.replicate 32 0
theorem Da (key:List UInt8):(DG key).length=32:=by unfold DG;split<;>simp[*]
def DX (key:List UInt8):Int:=if key.length=32 then 0 else 3
theorem Sf {kv:Value} {key:List UInt8} (hk:Bytes w kv key):Calls Tryz.prog 120 #[kv] w fun e w'=>e=.returned (.tuple #[.agg (AM (DG key)),.int .i64 (DX key)])∧Adds w w':=by
 unfold DG DX;by_cases h:key.length=32
 · rw[if_pos h,if_pos h]
   exact Ko hk h
 rw[if_neg h,if_neg h];obtain⟨ao,cap,rfl,_,_⟩:=hk.form;exact VS ao key.length cap h w
theorem K8 (h:Dct w0 w d v s G room σ root L M tn) {kv:Value} {key:List UInt8} (hk:Bytes w kv key):Calls Tryz.prog 107 #[.pointer (some ⟨d,0,none⟩),kv] w fun e w'=>e=.returned (.tuple #[.agg (AM (DG key)),.int .i64 (DX key)])∧Adds w w':=by
 have hn:=fun w1 (a:Adds w w1)=>FO (h.adds a)
 have ho:=fun w1 (a:Adds w w1)=>Sf (hk.An a (fun _ _ h=>h))
 obtain⟨K,hK⟩:∃K,K=AM (DG key):=⟨_,rfl⟩
 have hks:K.size=32:=by rw[hK,AN,Da]
 have hk1:∀v∈K.toList,v.oneCell'=true:=by rw[hK];exact Ah _
 obtain⟨er,her⟩:∃er,er=DX key:=⟨_,rfl⟩
 rw[←hK, ←her] at ho ⊢;obtain⟨ao,cap,rfl,_,_⟩:=hk.form;obtain⟨len,hlen⟩:∃len,len=key.length:=⟨_,rfl⟩
 rw[←hlen] at ho ⊢;have HN:=(hIq hn ho)
 have HK:=(hIq hks hk1)
 clear h hk hn ho hK hks hk1 her hlen;go_enter Tryz.func107,Tryz.ntmps107
 go_wp2_with (first
  | fail
  | ((with_reducible show zOq (.alloc 24));refine AI rfl 24 rfl (.agg (AM (List.replicate 32 0))) GJ ?_;dsimp only[Value.cells];try simp only[World.size_alloc]))
 refine(HN.out.1 _ ((Ch.refl _ _).alloc _)).mono ?_;rintro e w1 ⟨rfl,rfl⟩;go_wp2_with fail;refine(HN.out.2 _ ((Ch.refl _ _).alloc _)).mono ?_;rintro e w2 ⟨rfl,a2⟩;have r2:=a2.row (heap_alloc_new w (.cells (AM (List.replicate 32 0)) 24)) id;have H2:=(hIq (((Ch.refl (fun _=>False) w).alloc (.cells (AM (List.replicate 32 0)) 24)).trans a2 (fun _=>fEq)) r2)
 clear a2 r2
 go_wp2_with (first
  | fail
  | ((with_reducible show zOq (.store 24 _ _));refine AE rfl 24 _ _ rfl w.heap.size 0 K rfl rfl H2.out.2 (by rw[AW,HK.out.1]) (by rw[HK.out.1];exact Nat.le_of_eq (Nat.zero_add _)) HK.out.2 K (by rw[AK _ _ (by rw[Array.length_toList,Array.length_toList,HK.out.1];rfl)]) ?_))
 exact Ak (p:=4) (u:=5) rfl rfl (AG H2.out.2 _) Tryz.underlying24 rfl (by rw[AW,HK.out.1]) rfl ⟨rfl,H2.out.1.setRow (.inr (Nat.le_refl _)) _⟩
end
section
variable {w w' : World} {s : Nat} {F : Nat→Prop} {σ : AD Nd} {root : Int} {L : AQ} {key : List UInt8}
theorem Uy {k:Int} {x:Nd} (hx:sk σ k=some x):(nd σ k).hash=x.hash:=by have:=congrArg Nd.hash (F7 hx);exact this
theorem TR {k:Int} {x:Nd} (hx:sk σ k=some x):(nd σ k).depth=x.depth:=by have:=congrArg Nd.depth (F7 hx);exact this
theorem RU {σ:AD Nd} (hf:Fit (sk σ)) {e:Int} {d:Nat} {t:Tr} (hr:Rep (sk σ) e d t) (ht:t.isNode=false):J1 σ e=EC t:=by
 cases hr with
 | nil =>
  have hk:(nd σ 0).kind=0:=rfl;unfold J1;rw[if_neg (by omega),if_neg (by omega),Mm];rfl
 | leaf hn hk =>
  have h1:=CR hn;unfold J1;rw[if_pos (by omega),Cm hn,Uy hn,(hf.leaf hn (by omega)).2.hash];rfl
 | node=>cases ht
def Aj (v:Value) (N:Array Value):Array Value:=#[v]++N
def GW:Array Value:=Aj (.slice none 0 0) CD
theorem C7:(Tryz.prog.info? 117).bind (·.zero)=some (.agg GW)∧(Tryz.prog.info? 117).map (·.size)=some 130∧Tryz.prog.built 117 []=some GW:=⟨by kernel_rfl,by kernel_rfl,by kernel_rfl⟩
theorem Du {v:Value} {N:Array Value} (hv:v.oneCell'=true) (hN:∀u∈N.toList,u.oneCell'=true):∀u∈(Aj v N).toList,u.oneCell'=true:=fun u hu=>by
 unfold Aj at hu;rw[Array.toList_append] at hu;rcases List.mem_append.1 hu with h|h
 · obtain rfl:u=v:=by simpa using h
   exact hv
 exact hN u h
theorem Ae {v:Value} {N:Array Value} (h:N.size=129):(Aj v N).size=130:=by unfold Aj;rw[Array.size_append,h];rfl
theorem RJ:∃i z,Tryz.prog.info? 85=some i∧i.zero=some z∧i.size=32∧i.bytes=32∧z.cells.size=32:=by
 obtain⟨i,h1,h2⟩:=Option.map_eq_some_iff.1 (by kernel_rfl:(Tryz.prog.info? 85).map (fun i=>(i.size,i.bytes,i.zero.map (fun z=>z.cells.size)))=some (32,32,some 32));simp only[Prod.mk.injEq,Option.map_eq_some_iff] at h2;obtain⟨h2,h3,z,h4,h5⟩:=h2;exact⟨i,z,h1,h4,h2,h3,h5⟩
theorem PG (v u:Value) (N:Array Value):(Aj v N).setIfInBounds 0 u=Aj u N:=by
 apply Array.ext';simp[Aj]
theorem LA (v:Value) {N N':Array Value} (h:N.size=129) (h':N'.size=129):(splice (Aj v N).toList 1 N'.toList).toArray=Aj v N':=by
 apply Array.ext';have h1:N.toList.length=129:=by rw[Array.length_toList,h]
 have h2:N'.toList.length=129:=by rw[Array.length_toList,h']
 have e1:(Aj v N).toList=v::N.toList:=by simp[Aj]
 have e2:(Aj v N').toList=v::N'.toList:=by simp[Aj]
 show splice (Aj v N).toList 1 N'.toList=(Aj v N').toList
 rw[e1,e2];unfold splice;rw[h2,List.take_succ_cons,List.take_zero,List.drop_eq_nil_of_le (by rw[List.length_cons,h1];omega)];simp
theorem Ei (v:Value) (N:Array Value):(Aj v N)[0]?=some v:=by
 rw[←Array.getElem?_toList];simp[Aj]
def IL (w:World) (b:Nat) (v:Value) (l:List (List UInt8)):Prop:=Cf 85 32 AM w b v l
def MI (w:World) (t:Tr) (key:List UInt8) (e:Ending) (w':World):Prop:=∃v,e=.returned (.tuple #[.agg (Aj v (EC (t.stop key 0))),.int .i64 0])∧IL w' w.heap.size v (t.sides key 0)∧Adds w w'
theorem Vh (h:At w s F σ) (D:Db σ root L) (hk:key.length=32) :
 Calls Tryz.prog 139 #[.pointer (some ⟨s,0,none⟩),.int .i64 root,.agg (AM key)] w (MI w (tree 256 L) key):=by
 obtain⟨l,e1,ho⟩:=On.ex (k:=key) D.rep;obtain⟨hsl,hsd,hst⟩:=ho.sides D.good.fit D.rep;have hlen:=ho.len D.good.fit (Nat.zero_le _);rw[Nat.zero_add] at hlen;have hha:=fun w1 (a:Adds w w1)=>E5 (h.adds a) D.good root key hk (Cg D.hand) ho
 have hoth:=fun w1 (a:Adds w w1) n=>Nb (h.adds a) n key hk
 have hdg:=fun w1 (a:Adds w w1) n=>Ea (h.adds a) n
 have hnd:=fun w1 (a:Adds w w1)=>Ue (h.adds a) D.good e1
 have hne:=EV key (tree 256 L) 0;rw[RU D.good.fit hst hne] at hnd;have hents:∀e∈((tree 256 L).stop key 0).ents,e.1.length=32:=fun e he=>((D.rep.ents D.good.fit).1 e (DA key _ 0 e he)).1
 obtain⟨hNs,hN1⟩:=DT hne hents;obtain⟨N,hN⟩:∃N,N=EC ((tree 256 L).stop key 0):=⟨_,rfl⟩
 obtain⟨sd,hsde⟩:∃sd,sd=(tree 256 L).sides key 0:=⟨_,rfl⟩
 have hside:∀i x,l[i]?=some x→∃y:Int,(∀w1,Adds w w1→∃z:Int,Calls Tryz.prog 214 #[.pointer (some ⟨s,0,none⟩),.int .i64 x,.agg (AM key)] w1 fun e w'=>e=.returned (.tuple #[.int .i64 z,.int .i64 y])∧Adds w1 w')∧sd[i]?=some (Ar σ y):=fun i x hx=>by
  obtain⟨n,q1,q2,q3,q4⟩:=hsd i x hx;have hi:=(List.getElem?_eq_some_iff.1 hx).1
  have hdp:depth σ x=((i:Nat):Int):=by
   unfold depth;rw[if_pos (Pc q1).1,TR q1,q3,Nat.zero_add]
  have hy:(if AS key i=0 then (nd σ x).right else (nd σ x).left)=(if bit key (depth σ x)=0 then (nd σ x).right else (nd σ x).left):=by
   have hb:(bit key (depth σ x)=0)↔(AS key i=0):=by rw[hdp,Ct (by omega)];omega
   by_cases hq:AS key i=0
   · rw[if_pos hq,if_pos (hb.2 hq)]
   rw[if_neg hq,if_neg (fun e=>hq (hb.1 e))]
  refine⟨if AS key i=0 then (nd σ x).right else (nd σ x).left,fun w1 a=>⟨if bit key (depth σ x)=0 then (nd σ x).left else (nd σ x).right,?_⟩,?_⟩
  · rw[hy]
    exact hoth w1 a x
  rw[hsde,q4,Nat.zero_add,IE q1,GY q1,Ey]
 have hdl:∀y,(Ar σ y).length=32:=fun y=>h.AV y
 obtain⟨K,hK⟩:∃K,K=AM key:=⟨_,rfl⟩
 have hKs:K.size=32:=by rw[hK,AN,hk]
 obtain⟨Z,hZ⟩:∃Z,Z=GW:=⟨_,rfl⟩
 have hzf:=C7;have hZs:Z.size=130:=by rw[hZ];exact Ae rfl
 have hZ1:∀v∈Z.toList,v.oneCell'=true:=by rw[hZ];exact Du rfl Gz
 rw[←hZ] at hzf;rw[←hN] at hnd hNs hN1;rw[←hsde] at hsl;rw[←hK] at hha hside ⊢;obtain⟨i0,z0,p1,p2,p3,p4,p5⟩:=RJ;have HI:=(hIq p1 (aIq p2 (aIq p3 (aIq p4 p5))))
 have HW:=(hIq hha (aIq hside (aIq hdg hnd)))
 have HN:=(hIq hNs (aIq hN1 (aIq hN hsde)))
 have HZ:=(hIq hzf (aIq hZs (aIq hZ1 hZ)))
 have HL:=(hIq hsl (aIq hlen hdl))
 have HK:=Lib.hid hKs;clear hha hside hdg hnd hNs hN1 hN hsde hzf hZs hZ1 hZ hsl hlen hdl hKs hK hne hents hst hsd hoth ho p1 p2 p3 p4 p5 hk D h;go_enter Tryz.func139,Tryz.ntmps139
 go_upto_region 1 with(first
  | fail
  | ((with_reducible show zOq (.alloc 117));refine AI rfl 117 rfl (.agg Z) HZ.out.1.1 ?_;dsimp only[Value.cells];try simp only[World.size_alloc]))
 refine BQ (fun w1 hw1=>?_);have a1:Adds w w1:=by rw[hw1];exact((Ch.refl _ _).alloc _).alloc _
 have r0:w1.heap[w.heap.size]?=some (.cells K 24 (0,0)):=by rw[hw1];exact AJ (heap_alloc_new _ _) _
 have r1:w1.heap[w.heap.size+1]?=some (.cells Z 117 (0,0)):=by
  rw[hw1];have:=heap_alloc_new (w.alloc (.cells K 24)) (.cells Z 117);simpa using this
 have A1:=(hIq a1 (aIq r0 r1))
 clear a1 r0 r1 hw1
 go_wp2_with (first
  | fail
  | ((with_reducible show zOq (.load 24 _));refine AF rfl 24 _ rfl w.heap.size 0 rfl A1.out.2.1 Tryz.underlying24 rfl AW (by rw[HK.out];omega) K (by simp[←HK.out]) ?_))
 refine(HW.out.1 _ A1.out.1).mono ?_;rintro e w2 ⟨v2,rfl,hq,a2⟩;obtain⟨qo,qc,rfl⟩:=As hq;have hI:KC w2 qo l:=(KC.own (l:=l) hq).1;have hB1:w.heap.size+1<w1.heap.size:=Ao A1.out.2.2;have hsz2:=a2.size;have hlow:∀g off,qo=some ⟨g,off,none⟩→w1.heap.size≤g:=fun g off e=>(hq.lt g (by rw[e];rfl)).1
 obtain⟨n,hn⟩:∃n,n=l.length:=⟨_,rfl⟩
 have hn256:n≤256:=by rw[hn];exact HL.out.2.1
 obtain⟨B1,hb1⟩:∃B1,B1=w.heap.size+1:=⟨_,rfl⟩
 rw[←hn, ←hb1];have H2:=(hIq (A1.out.1.trans a2 (fun _=>fEq)) (aIq (a2.row A1.out.2.1 id) (aIq hI (aIq hlow (aIq (by omega:w.heap.size<B1∧B1<w2.heap.size∧B1<w1.heap.size) hn)))))
 have h2r:w2.heap[B1]?=some (.cells (Aj (.slice none 0 0) CD) 117 (0,0)):=by
  have h1:=a2.row A1.out.2.2 id;rw[HZ.out.2.2.2] at h1;rw[hb1];exact h1
 have H2R:=Lib.hid h2r;clear hq a2 hI hlow hn hb1 h2r;go_wp2_with fail;go_loopg [11,12,13,28] n (fun g s11 s12 s13 s28 wr=>∃(k:Nat) (v:Value),s28=.int .i64 (k:Nat)∧k+g=n∧v.oneCell'=true∧wr.heap[B1]?=some (.cells (Aj v CD) 117 (0,0))∧IL wr w2.heap.size v (sd.take k)∧Ch (fun k=>k=B1) w2 wr)
 case atStart=>exact⟨0,.slice none 0 0,rfl,by omega,rfl,H2R.out,Cf.nil _ _,Ch.refl _ _⟩
 obtain⟨k,v,rfl,hk,hv1,hr,hrow,hch⟩:=hrel;have hA:Adds w wr:=H2.out.1.trans hch (fun k hk=>.inr (by rw[hk];have:=H2.out.2.2.2.2.1;omega));have HS:=(hIq hk (aIq hr (aIq hrow (aIq hch (aIq hA hv1)))))
 by_cases hkn:k<n
 · have h1:decide ((k:Int)<(n:Int))=true:=decide_eq_true (by omega)
   have h2:(k:Int)<(n:Int):=by omega
   have hwk:wrap64 ((k:Int)+1)=(k:Int)+1:=by unfold wrap64;omega
   obtain⟨x,hx⟩:∃x,l[k]?=some x:=⟨_,List.getElem?_eq_getElem (by have:=H2.out.2.2.2.2.2;omega)⟩
   obtain⟨g0,off,rfl,hc⟩:=H2.out.2.2.1 k x hx;have hg1:=H2.out.2.2.2.1 g0 off rfl;have hcw:=hch.cell hc (fun e=>by have h3:g0=B1:=e;have:=H2.out.2.2.2.2.1;omega);have hrk:=hch.row H2.out.2.1 (fun e=>by have h3:w.heap.size=B1:=e;have:=H2.out.2.2.2.2.1;omega);obtain⟨y,hy1,hy2⟩:=HW.out.2.1 k x hx;have hkl:(sd.take k).length=k:=by rw[List.length_take,HL.out.1, ←H2.out.2.2.2.2.2];omega
   have hsn:sd.take (k+1)=sd.take k ++ [Ar σ y]:=by rw[List.take_add_one,hy2];rfl
   obtain⟨zx,hzx⟩:=hy1 wr hA;have HX:=(hIq hrk (aIq hzx (aIq hsn hkl)))
   clear hk hr hrow hch hA hx hc hg1 hrk hy1 hy2 hsn hkl hzx hv1
   go_upto_region 8 with(first
    | fail
    | ((with_reducible show zOq (.load 24 _));refine AF rfl 24 _ rfl w.heap.size 0 rfl HX.out.1 Tryz.underlying24 rfl AW (by rw[HK.out];omega) K (by simp[←HK.out]) ?_))
   refine HX.out.2.1.mono ?_;rintro e w4 ⟨rfl,a4⟩;obtain⟨D,hD⟩:∃D,D=AM (Ar σ y):=⟨_,rfl⟩
   have hDs:D.size=32:=by rw[hD,AN,HL.out.2.2]
   have hdg:=fun w1 (a:Adds w4 w1)=>HW.out.2.2.1 w1 ((HS.out.2.2.2.2.1.trans a4 (fun _=>fEq)).trans a (fun _=>fEq)) y
   rw[←hD] at hdg;have H4:=(hIq (a4.row HS.out.2.1 id) (aIq (HS.out.2.2.1.adds a4) (aIq (HS.out.2.2.2.1.trans a4 (fun _=>fEq)) (aIq hdg (aIq hDs (aIq hD (show ∀v∈D.toList,v.oneCell'=true by rw[hD];exact Ah _)))))))
   clear a4 hdg hDs hD hcw;go_upto_region 8 with fail;refine AO (fun w0=>w0.heap[B1]?=some (.cells (Aj v CD) 117 (0,0))) 8 [(0,false),(1,false),(2,false),(3,false),(4,true),(5,true),(6,true),(7,false)] (by kernel_rfl) (by kernel_rfl) ?_ ?_
   · exact AP H4.out.1
   iterate 1 refine plan_look rfl rfl (fun w0 hS=>(by go_simp;try rfl)) ?_
   simp only[Act.put,nAq,nBq,nCq];refine plan_look (v:=v) rfl rfl (fun w0 hS=>(by have c1:w0.cell? ⟨B1,0,none⟩=some v:=AH hS (Ei _ _);clear hS;go_simp;try rfl)) ?_;simp only[Act.put,nAq,nBq,nCq]
   iterate 2
    iterate 1 refine plan_look rfl rfl (fun w0 hS=>(by go_simp;try rfl)) ?_
    simp only[Act.put,nAq,nBq,nCq]
   refine Aa rfl ?_;go_wp2_with fail;refine(H4.out.2.2.2.1 _ (Ch.refl _ _).drew).mono ?_;rintro e w5 ⟨rfl,a5⟩;have a5':Adds w4 w5:=(Ch.refl _ _).drew.trans a5 (fun _=>fEq);have H5:=(hIq (a5'.row H4.out.1 id) (aIq (H4.out.2.1.adds a5') (H4.out.2.2.1.trans a5' (fun _=>fEq))))
   clear a5 a5';dsimp only;go_step;refine wpList_nil ?_;change _∧_;refine⟨H5.out.1,?_⟩;refine Aa rfl ?_
   go_wp2_with (first
    | fail
    | ((with_reducible show zOq (.buildSlice 112 _ _));refine A6 rfl 112 _ rfl 85 i0 z0 (.agg D) rfl Tryz.underlying112 HI.out.1 HI.out.2.1 (by rw[HI.out.2.2.1];decide) (by rw[HI.out.2.2.1];decide) (by rw[HI.out.2.2.1];exact H4.out.2.2.2.2.1) ?_))
   dsimp only[Value.cells];refine⟨AJ H5.out.1 _,?_⟩
   have hown5:(w5.alloc (.cells D 85)).ownsRow w2.heap.size 85 32 v k (BG AM (sd.take k)):=by
    have h3:=(Ch.refl (fun _=>False) w5).alloc (.cells D 85);have h4:=Cf.adds H5.out.2.1 h3;unfold Cf at h4;rw[HX.out.2.2.2] at h4;exact h4
   have HO5:=Lib.hid hown5;clear hown5;refine Aa rfl ?_
   go_wp2_with (first
    | fail
    | (at_builtin;refine Ap rfl _ _ 112 rfl 85 i0 z0 32 32 Tryz.underlying112 HI.out.1 HI.out.2.1 HI.out.2.2.1 HI.out.2.2.2.1 HI.out.2.2.2.2 (by decide) v k (BG AM (sd.take k)) rfl (HO5.out.base (fun _ _=>Nat.zero_le _)) ⟨w5.heap.size,0,none⟩ 1 1 D.toList rfl (by rw[Array.length_toList,H4.out.2.2.2.2.1]) (Cp (heap_alloc_new w5 (.cells D 85))) H4.out.2.2.2.2.2.2 (by unfold maxLen;omega) (by omega) ?_;intro v' w6 own' grow' loc'))
   have hbs:∀j,v.ownBlock=some j→w2.heap.size≤j:=fun j hj=>(HO5.out.lt j hj).1
   have r6:=((Ch.refl (fun j=>v.ownBlock=some j) _).grown grow' (fun k hk=>.inl hk)).row (AJ H5.out.1 (.cells D 85)) (fun e=>by have h3:=hbs B1 e;have:=H2.out.2.2.2.2.1;omega);have ch6:Ch (fun k=>k=B1) w2 w6:=(H5.out.2.2.alloc _).grown grow' (fun k hk=>.inr (hbs k hk))
   have own6:IL w6 w2.heap.size v' (sd.take (k+1)):=by
    have h3:=J7 (b:=w2.heap.size) own' hbs (H5.out.2.2.alloc _).size loc';unfold IL Cf;rw[HX.out.2.2.1,List.length_append,HX.out.2.2.2,Ce];rw[show BG AM [Ar σ y]=D.toList by rw[H4.out.2.2.2.2.2.1];simp[BG]];exact h3
   obtain⟨vo,vc,rfl⟩:=As own';have H6:=(hIq r6 (aIq ch6 own6))
   have q6:=AH r6 (Ei _ _);have f6:=Al r6 0;have l6:=Ao r6;clear own' grow' loc' hbs r6 ch6 own6;refine⟨H6.out.1,?_⟩
   iterate 1 refine plan_look rfl rfl (fun w0 hS=>(by go_simp;try rfl)) ?_
   simp only[Act.put,nAq,nBq,nCq];refine Ad ?_;simp only[List.drop_succ_cons,List.drop_zero];go_wp2;refine NoPanic.normal ?_;obtain⟨w7,hw7⟩:∃w7,w7=w6.setCell ⟨B1,0,none⟩ (.slice vo (k+1) vc):=⟨_,rfl⟩
   rw[←hw7]
   have r7:w7.heap[B1]?=some (.cells (Aj (.slice vo (k+1) vc) CD) 117 (0,0)):=by
    rw[hw7, ←PG v (.slice vo (k+1) vc) CD];exact AT H6.out.1 0 _
   have c67:Ch (fun k=>k=B1) w6 w7:=by rw[hw7];exact(Ch.refl (fun k=>k=B1) w6).setCell (p:=⟨B1,0,none⟩) (.inl rfl) _
   have own7:IL w7 w2.heap.size (.slice vo (k+1) vc) (sd.take (k+1)):=c67.owns H6.out.2.2 (fun j hj e=>by have h3:=(World.ownsRow.lt H6.out.2.2 j hj).1;have h4:j=B1:=e;have:=H2.out.2.2.2.2.1;omega);have H7:=(hIq r7 (aIq own7 (H6.out.2.1.trans c67 (fun k hk=>.inl hk))))
   clear r7 c67 own7 hw7 q6 f6 l6;go_wp2;go_roundg (n-(k+1))
   case measure=>have:=HS.out.1;omega
   exact⟨k+1,.slice vo (k+1) vc,by first|(simp;done)|(simp[hwk];done),by omega,rfl,H7.out.1,H7.out.2.1,H7.out.2.2⟩
 obtain rfl:k=n:=by omega
 have h1:decide ((k:Int)<(k:Int))=false:=decide_eq_false (by omega);have h2:¬(k:Int)<(k:Int):=by omega
 have hta:sd.take k=sd:=List.take_of_length_le (by rw[HL.out.1];have:=H2.out.2.2.2.2.2;omega);have hnd:=HW.out.2.2.2 wr hA;have HE:=(hIq hta hnd)
 clear hk hr hrow hch hA hta hnd;go_wp2_with fail;refine HE.out.2.mono ?_;rintro e w4 ⟨rfl,a4⟩;have H4:=(hIq (a4.row HS.out.2.1 id) (aIq (HS.out.2.2.1.adds a4) (HS.out.2.2.2.2.1.trans a4 (fun _=>fEq))))
 clear a4;have hZ129:CD.size=129:=rfl
 go_wp2_with (first
  | fail
  | ((with_reducible show zOq (.store 115 _ _));refine AE rfl 115 _ _ rfl B1 1 N rfl rfl H4.out.1 (by rw[Bu.2.1,HN.out.1]) (by rw[HN.out.1,Ae hZ129];omega) HN.out.2.1 (Aj v N) (LA v hZ129 HN.out.1) ?_)
  | ((with_reducible show zOq (.load 117 _));refine AF rfl 117 _ rfl B1 0 rfl (AG H4.out.1 _) Tryz.underlying117 rfl HZ.out.1.2.1 (by rw[Ae HN.out.1];omega) (Aj v N) (by have:=Ae (v:=v) HN.out.1;simp[←this]) ?_)
  | ((with_reducible show zOq (.store 117 _ _));refine AE rfl 117 _ _ rfl B1 0 (Aj v N) rfl rfl (AG H4.out.1 _) (by rw[HZ.out.1.2.1,Ae HN.out.1]) (by rw[Ae HN.out.1];omega) (Du HS.out.2.2.2.2.2 HN.out.2.1) (Aj v N) (by rw[AK _ _ rfl]) ?_))
 exact Ak (p:=6) (u:=7) rfl rfl (AG (AG H4.out.1 _) _) Tryz.underlying117 rfl (by rw[HZ.out.1.2.1,Ae HN.out.1]) rfl
  ⟨v,by rw[←HN.out.2.2.1];rfl,by
   have h3:IL w4 w.heap.size v sd:=by
    have h4:=H4.out.2.1;rw[HE.out.1] at h4;exact World.ownsRow.base h4 (fun j hj=>Nat.le_trans H2.out.1.size (h4.lt j hj).1)
   rw[←HN.out.2.2.2];exact((((Ch.refl (fun k=>k=B1) w4).setRow (.inl rfl) _).setRow (.inl rfl) _).owns h3 (fun j hj e=>by have h5:=(World.ownsRow.lt H4.out.2.1 j hj).1;have h6:j=B1:=e;have:=H2.out.2.2.2.2.1;omega)),((H4.out.2.2.setRow (.inr (by have:=H2.out.2.2.2.2.1;omega)) _).setRow (.inr (by have:=H2.out.2.2.2.2.1;omega)) _)⟩
end
end Go.Proofs.YtooijgcildbnlaaGreat.Law15
