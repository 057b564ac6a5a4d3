/- Laws of the layers below. -/
import Derived.Test.YtngbdbpofifimaaGreatQm27
set_option maxHeartbeats 3200000
set_option maxRecDepth 100000
set_option linter.unusedVariables false
namespace Go.Proofs.YtngbdbpofifimaaGreat.Store
open Go.RowKit Go.Proofs.YtngbdbpofifimaaGreat.ShaW Go.Proofs.YtngbdbpofifimaaGreat.Path
section
variable {w w' : World} {b : Nat} {F : Nat→Prop} {ρ : Rs}
theorem RAt.XJ (h:RAt w b F ρ) {m:Nat} {x:Sp} (hx:ρ.spots[m]?=some x) {g cap:Nat} {vf:Value} {cur:Array Value} (hb:w.heap[b]?=some (.cells #[.bool true,.int .i64 (ρ.space:Nat),.slice (some ⟨g,0,none⟩) ρ.spots.length cap,vf] 319 (0,0)))
 (hg:w.heap[g]?=some (.cells cur 262 (0,0))) :
 m*39+39≤cur.size∧RAt (w.setRow g (splice cur.toList (m*39) Sp.zero.cells.toList).toArray) b F (ρ.setAt m Sp.zero)∧Ch F w (w.setRow g (splice cur.toList (m*39) Sp.zero.cells.toList).toArray) ∧
  (w.setRow g (splice cur.toList (m*39) Sp.zero.cells.toList).toArray).heap[b]?=some (.cells #[.bool true,.int .i64 (ρ.space:Nat),.slice (some ⟨g,0,none⟩) ρ.spots.length cap,vf] 319 (0,0)):=by
 obtain⟨h0,vs,vf',h1,h2,h3,h4,h5,h6,h7,h8⟩:=h;rw[hb] at h1;simp only[Option.some.injEq,Obj.cells.injEq,and_true,true_and,Array.mk.injEq,List.cons.injEq,and_self] at h1;obtain⟨rfl,rfl⟩:=h1;have hm:=(List.getElem?_eq_some_iff.1 hx).1;obtain⟨g',cap',cur',e,hg',hc1,hc2,hc3,hc4⟩:=Bq h2 (by omega);cases e;rw[hg] at hg';cases hg';obtain⟨fg,gb⟩:=h6 g rfl
 have hsz:∀a∈ρ.spots.map Sp.cells,a.size=39:=fun a ha=>by
  obtain⟨z,hz,rfl⟩:=List.mem_map.1 ha;exact Sp.AY (h0.nums z hz).1
 have hzs:=Sp.AY Sp.BP;have hle:(m+1)*39≤ρ.spots.length*39:=Nat.mul_le_mul_right _ hm;have hkc:ρ.spots.length*39≤cur.size:=by rw[hc3];exact Nat.mul_le_mul_right _ hc1
 have hkk:m*39+39≤ρ.spots.length*39:=by omega
 obtain⟨new,HN⟩:∃new,(splice cur.toList (m*39) Sp.zero.cells.toList).toArray=new:=⟨_,rfl⟩
 have HT:new.toList.take (ρ.spots.length*39)=Bz ((ρ.spots.set m Sp.zero).map Sp.cells):=by
  rw[←HN];have e1:=D8 hc4 hkc (off:=m*39) (v:=Sp.zero.cells.toList) (by rw[Array.length_toList,hzs];omega);have e2:=IW hsz (i:=m) (by simpa using hm) hzs;rw[e2, ←List.map_set] at e1;exact e1
 have HS:new.size=cur.size:=by
  rw[←HN];have:=Ce cur.toList (m*39) Sp.zero.cells.toList (by rw[Array.length_toList,hzs,Array.length_toList];omega);simpa using this
 rw[HN];have hCh:Ch (fun j=>j=g) w (w.setRow g new):=(Ch.refl (fun j=>j=g) w).setRow (.inl rfl) new;have hb5:=row_setRow hb (Ne.symm gb) new;refine⟨by omega,⟨⟨h0.space,by simpa[Rs.setAt] using h0.len,fun n hn=>by simpa[Rs.setAt] using h0.free n hn,by simpa[Rs.setAt] using h0.flen,fun z hz=>?_⟩,_,_,hb5,?_,?_,fun z hz=>?_,h5,fun k hk=>h6 k hk,h7,fun k hk=>Nat.lt_of_lt_of_le (h8 k hk) hCh.size⟩,hCh.mono (fun j _ e=>by rw[e];exact fg),hb5⟩
 · rcases List.mem_or_eq_of_mem_set hz with hz|rfl
   · exact h0.nums z hz
   exact⟨Sp.BP,⟨Int.le_refl 0,by show(0:Int)≤2147483648;decide⟩,⟨Int.le_refl 0,by show(0:Int)≤2147483648;decide⟩⟩
 · show World.ownsRow _ 0 _ 39 _ (ρ.spots.set m Sp.zero).length _
   rw[List.length_set];exact B4 (AK hg new) hc1 hc2 (by rw[HS];exact hc3) HT
 · exact hCh.owns h3 (fun k hk e=>(h7 k hk).2.2 (by subst e;rfl))
 rcases List.mem_or_eq_of_mem_set hz with hz|rfl
 · obtain⟨u1,u2⟩:=h4 z hz
   exact⟨u1.Ae hCh (fun k hk e=>(u2 k hk).2.2.1 (by subst e;rfl)),u2⟩
 exact⟨Bytes.nil _,fun k hk=>by cases hk⟩
theorem RAt.SV (h:RAt w b F ρ) {m:Nat} (hm:m<ρ.spots.length) (hfl:ρ.free.length<ρ.spots.length) {vs vf:Value} (hb:w.heap[b]?=some (.cells #[.bool true,.int .i64 (ρ.space:Nat),vs,vf] 319 (0,0)))
 {w1 w4:World} {v':Value} (a:AN w w1) (own':w4.ownsRow 0 3 1 v' (ρ.free.length+1) (ints ρ.free ++ [.int .i64 ((m:Int)+1)])) (grow':w1.grownBy w4 vf.ownBlock) (ob':v'.ownBlock=vf.ownBlock∨∀j,v'.ownBlock=some j→w1.heap.size≤j) :
 RMoved w (w4.setCell ⟨b,3,none⟩ v') b F { ρ with free:=ρ.free ++ [m+1] }:=by
 obtain⟨z0,vs',vf',h1,h2,h3,z4,z5,z6,z7,z8⟩:=h;rw[hb] at h1;simp only[Option.some.injEq,Obj.cells.injEq,and_true,true_and,Array.mk.injEq,List.cons.injEq,and_self] at h1;obtain⟨rfl,rfl⟩:=h1;have CH:Ch (fun j=>vf.ownBlock=some j) w w4:=(a.mono (G:=fun j=>vf.ownBlock=some j) (fun _ _ h=>h.elim)).grown grow' (fun j hj=>.inl hj);have hnb':¬vf.ownBlock=some b:=fun e=>(z7 b e).2.1 rfl
 have r4b:=CH.row hb hnb';have hb5:=AV r4b 3 v';have hsz:=a.size
 have hne:∀j,v'.ownBlock=some j→j≠b∧(F j∨w.heap.size≤j)∧vs.ownBlock≠some j∧∀z∈ρ.spots,z.addr.ownBlock≠some j:=fun j hj=>by
  rcases ob' with e|e
  · rw[e] at hj
    exact⟨(z7 j hj).2.1,.inl (z7 j hj).1,(z7 j hj).2.2,fun z hz h=>((z4 z hz).2 j h).2.2.2 hj⟩
  have h1:=e j hj;have hbs:=z8 b z5;exact⟨by omega,.inr (by omega),fun h=>by have:=z8 j (z6 j h).1;omega,fun z hz h=>by have:=z8 j ((z4 z hz).2 j h).1;omega⟩
 have hC5:Ch (fun j=>j=b∨vf.ownBlock=some j) w (w4.setCell ⟨b,3,none⟩ v'):=(CH.mono (G:=fun j=>j=b∨vf.ownBlock=some j) (fun _ _ h=>.inr h)).setCell (p:=⟨b,3,none⟩) (.inl (.inl rfl)) _;have hs5:(w4.setCell ⟨b,3,none⟩ v').heap.size=w4.heap.size:=by simp
 refine⟨fun j=>F j∨(w.heap.size≤j∧j<w4.heap.size),⟨⟨z0.space,z0.len,fun n hn=>?_,?_,z0.nums⟩,vs,v',hb5,?_,?_,fun z hz=>?_,.inl z5,fun j hj=>?_,fun j hj=>?_,fun j hj=>?_⟩,hC5.mono ?_,fun j hj=>hj.imp id (fun h=>h.1)⟩
 · rcases List.mem_append.1 hn with hn|hn
   · exact z0.free n hn
   obtain rfl:=List.mem_singleton.1 hn;exact⟨by omega,hm⟩
 · show(ρ.free ++ [m+1]).length≤ρ.spots.length
   rw[List.length_append,List.length_singleton];omega
 · exact hC5.owns h2 (fun j hj e=>by
    rcases e with rfl|e
    · exact(z6 _ hj).2 rfl
    exact(z7 _ e).2.2 hj)
 · show World.ownsRow _ 0 _ 1 v' (ρ.free ++ [m+1]).length (ints (ρ.free ++ [m+1]))
   rw[List.length_append,List.length_singleton,show ints (ρ.free ++ [m+1])=ints ρ.free ++ [.int .i64 ((m:Int)+1)] by simp[ints]];exact((Ch.refl (fun j=>j=b) w4).setCell (p:=⟨b,3,none⟩) (.inl rfl) _).owns own' (fun j hj e=>(hne j hj).1 e)
 · obtain⟨u1,u2⟩:=z4 z hz
   refine⟨u1.Ae hC5 (fun j hj e=>?_),fun j hj=>⟨.inl (u2 j hj).1,(u2 j hj).2.1,(u2 j hj).2.2.1,fun e=>(hne j e).2.2.2 z hz hj⟩⟩;rcases e with rfl|e
   · exact(u2 _ hj).2.1 rfl
   exact(u2 _ hj).2.2.2 e
 · exact⟨.inl (z6 j hj).1,(z6 j hj).2⟩
 · obtain⟨q1,q2,q3,q4⟩:=hne j hj
   refine⟨?_,q1,q3⟩;rcases q2 with q2|q2
   · exact .inl q2
   exact .inr ⟨q2,(own'.lt j hj).2⟩
 · rw[hs5]
   rcases hj with hj|hj
   · exact Nat.lt_of_lt_of_le (z8 j hj) CH.size
   exact hj.2
 rintro j hj (rfl|e)
 · exact z5
 exact(z7 j e).1
end
section
variable {w w' : World} {b : Nat} {F : Nat→Prop} {ρ : Rs} {σ : AG Nd}
theorem Oc (h:RAt w b F ρ) {m:Nat} {x:Sp} (hx:ρ.spots[m]?=some x) (hp:0<x.own+x.sides) :
 Calls Tryz.prog 226 #[.pointer (some ⟨b,0,none⟩),.int .i64 ((m:Int)+1)] w fun e w'=>e=.returned (.int .i64 0)∧AN w w':=by
 obtain⟨g,cap,cur,vf,hb,hg,q1,q2,q3,q4,q5,hok,hat,hex,fg,gb,hfit⟩:=Dy h hx;obtain⟨_,hn1,hn2⟩:=h.1.nums x (List.mem_of_getElem? hx);have hl:=h.1.len;have hs:=h.1.space;have c2:=AH hb (i:=2) rfl;have lb:=Ad hb;obtain⟨X,hX⟩:∃X,X=x.cells:=⟨_,rfl⟩
 rw[←hX] at hex;obtain⟨Z,hZ⟩:∃Z,Z=Sp.zero.cells:=⟨_,rfl⟩
 have hzs:=Gx;rw[←hZ] at hzs;have HX:=(hIq (by rw[hX];exact Sp.AY hok:X.size=39) (by rw[hX];exact Sp.cells_one hok:∀v∈X.toList,v.oneCell'=true))
 obtain⟨ow,how⟩:∃o,o=x.own:=⟨_,rfl⟩
 obtain⟨sd,hsd⟩:∃o,o=x.sides:=⟨_,rfl⟩
 have x37:X[37]?=some (.int .i64 ow):=by rw[hX,how];exact Sp.EG hok
 have x38:X[38]?=some (.int .i64 sd):=by rw[hX,hsd];exact Sp.GS hok
 rw[←how] at hn1 hp;rw[←hsd] at hn2 hp;have HZ:=(hIq hzs (by rw[hZ];exact Sp.AY Sp.BP:Z.size=39))
 have HH:=(hIq hg (aIq hex hfit))
 have HC:=(hIq x37 x38)
 obtain⟨L,hL⟩:∃L,L=ρ.spots.length:=⟨_,rfl⟩
 rw[←hL] at c2 q5 hl;have hml:m≤65535:=by omega
 have hw1:IntKind.i64.wrap (ow+sd)=ow+sd:=IntWalk.i64_in _ (by omega);have hp':decide (0<ow+sd)=true:=decide_eq_true hp;have c37:=AH (AK (heap_alloc_new w (.cells Z 262)) X) x37;have c38:=AH (AK (heap_alloc_new w (.cells Z 262)) X) x38;clear hb hg q1 q2 q3 q4 hok hat hex fg gb hfit h hX hZ hzs x37 x38 how hsd hx hL;go_enter Tryz.func226,Tryz.ntmps226
 go_wp2_with (first
  | fail
  | ((with_reducible show zOq (.alloc 262));refine AO rfl 262 rfl (.agg Z) HZ.out.1 ?_;dsimp only[Value.cells];try simp only[World.size_alloc])
  | ((with_reducible show zOq (.load 262 _));refine AJ rfl 262 _ rfl g (m*39) rfl HH.out.1 Tryz.underlying262 rfl Cf HH.out.2.2 X HH.out.2.1 ?_)
  | ((with_reducible show zOq (.store 262 _ _));refine AI rfl 262 _ _ rfl w.heap.size 0 X rfl rfl (heap_alloc_new _ _) (by rw[Cf,HX.out.1]) (by rw[HX.out.1,HZ.out.2];omega) HX.out.2 X (by rw[AT _ _ (by rw[Array.length_toList,Array.length_toList,HX.out.1,HZ.out.2])]) ?_))
 go_ret;exact⟨rfl,((Ch.refl _ w).alloc _).setRow (.inr (Nat.le_refl _)) _⟩
def C0 (w wz:World) (b:Nat) (F:Nat→Prop) (ρ:Rs) (X:Array Value):Prop :=
 ∃F',RAt wz b F' ρ∧Ch F w wz∧(∀k,F' k→F k∨w.heap.size<k)∧wz.heap[w.heap.size]?=some (.cells X 262 (0,0))∧∀k,F k→k<w.heap.size
theorem C0.step {wz:World} {X:Array Value} {ρ':Rs} {F':Nat→Prop} (c:Ch F w wz) (f:∀k,F' k→F k∨w.heap.size<k) (e:wz.heap[w.heap.size]?=some (.cells X 262 (0,0))) (hF:∀k,F k→k<w.heap.size) (hm:RMoved wz w' b F' ρ'):C0 w w' b F ρ' X:=by
 obtain⟨F2,r2,c2,f2⟩:=hm;have hlt:=Ad e;refine⟨F2,r2,c.trans c2 (fun k hk=>(f k hk).imp id (fun h=>by omega)),fun k hk=>?_,c2.row e (fun h=>?_),hF⟩
 · rcases f2 k hk with h|h
   · exact f k h
   exact .inr (by omega)
 rcases f _ h with h|h
 · have:=hF _ h;omega
 omega
theorem C0.Fj {wz:World} {X:Array Value} (h:C0 w wz b F ρ X):RMoved w wz b F ρ:=by
 obtain⟨F',r,c,f,_,_⟩:=h;exact⟨F',r,c,fun k hk=>(f k hk).imp id (fun h=>by omega)⟩
theorem C0.drew {wz:World} {X:Array Value} (h:C0 w wz b F ρ X):C0 w wz.drew b F ρ X:=by
 obtain⟨F',r,c,f,e,g⟩:=h;exact⟨F',r.adds (Ch.refl (fun _=>False) wz).drew,c.drew,f,AM e,g⟩
theorem RAt.Pj (h:RAt w b F ρ) {vs vf:Value} (hb:w.heap[b]?=some (.cells #[.bool true,.int .i64 (ρ.space:Nat),vs,vf] 319 (0,0))):w.ownsRow 0 3 1 vf ρ.free.length (ints ρ.free):=by
 obtain⟨_,vs',vf',h1,h2,h3,_⟩:=h;rw[hb] at h1;simp only[Option.some.injEq,Obj.cells.injEq,and_true,true_and,Array.mk.injEq,List.cons.injEq,and_self] at h1;obtain⟨rfl,rfl⟩:=h1;exact h3
end
def Oh (T b:Nat):Prop:=∀(σ:AG Nd) (ρ:Rs) (m:Nat) (s:Nd×Nat) (x:Sp) (rest:List Int) (w:World) (F:Nat→Prop),total σ≤T→Sound σ (((m:Int)+1)::rest)→LkD σ ρ m s x→RAt w b F ρ →
 Calls Tryz.prog 226 #[.pointer (some ⟨b,0,none⟩),.int .i64 ((m:Int)+1)] w fun e w'=>e=.returned (.int .i64 ((sweep σ [(m:Int)+1] 0).1:Nat))∧∃ρ',Lk (sweep σ [(m:Int)+1] 0).2 ρ'∧RMoved w w' b F ρ'
section
variable {w w' : World} {b : Nat} {F : Nat→Prop} {ρ : Rs} {σ : AG Nd}
theorem RAt.Vm (h:RAt w b F ρ) {vs vf:Value} (hb:w.heap[b]?=some (.cells #[.bool true,.int .i64 (ρ.space:Nat),vs,vf] 319 (0,0))):¬vf.ownBlock=some b:=by
 obtain⟨_,vs',vf',h1,h2,h3,_,_,_,z7,_⟩:=h;rw[hb] at h1;simp only[Option.some.injEq,Obj.cells.injEq,and_true,true_and,Array.mk.injEq,List.cons.injEq,and_self] at h1;obtain⟨rfl,rfl⟩:=h1;exact fun e=>(z7 b e).2.1 rfl
theorem RAt.lt (h:RAt w b F ρ):∀k,F k→k<w.heap.size:=by obtain⟨_,_,_,_,_,_,_,_,_,_,h8⟩:=h;exact h8
theorem C0.kid {T:Nat} (ih:Oh T b) {wz:World} {X:Array Value} {l:Int} {rest:List Int} (H:C0 w wz b F ρ X) (L:Lk σ ρ) (hT:total σ≤T) (S:Sound σ (l::rest)) :
 ∃(m g cap:Nat) (vf:Value) (x:Sp) (cur:Array Value),l=(m:Int)+1∧m<65536∧m<ρ.spots.length∧ρ.spots.length≤65536∧1≤x.sides∧x.sides≤2147483648 ∧
  wz.heap[b]?=some (.cells #[.bool true,.int .i64 (ρ.space:Nat),.slice (some ⟨g,0,none⟩) ρ.spots.length cap,vf] 319 (0,0)) ∧
  wz.heap[g]?=some (.cells cur 262 (0,0))∧cur[m*39+38]?=some (.int .i64 x.sides)∧g≠b∧g≠w.heap.size ∧
  Calls Tryz.prog 226 #[.pointer (some ⟨b,0,none⟩),.int .i64 l] (wz.setCell ⟨g,m*39+38,none⟩ (.int .i64 (x.sides-1))) fun e w'=>e=.returned (.int .i64 ((sweep σ [l] 0).1:Nat))∧∃ρ',Lk (sweep σ [l] 0).2 ρ'∧C0 w w' b F ρ' X:=by
 obtain⟨m,s,x,rfl,hx,h1,LD⟩:=L.owe S;obtain⟨F',h,c,f,e,hF⟩:=H;obtain⟨g,cap,cur,vf,hb,hg,q1,q2,q3,q4,q5,hok,hat,hex,fg,gb,hfit⟩:=Dy h hx;obtain⟨_,hn1,hn2⟩:=h.1.nums x (List.mem_of_getElem? hx);have hl:=h.1.len;have hs:=h.1.space;obtain⟨r1,ch1,hb1⟩:=h.Kd hx hb 38 (.int .i64 (x.sides-1)) (by omega) (Sp.LW hok _) (y:=x.less) ⟨⟨hok.key,hok.addr,hok.val⟩,hn1,⟨by show 0≤x.sides-1;omega,by show x.sides-1≤_;omega⟩⟩ ⟨rfl,rfl⟩
 have hgw:g≠w.heap.size:=fun he=>by
  rcases f g fg with h2|h2
  · have:=hF g h2;omega
  omega
 refine⟨m,g,cap,vf,x,cur,rfl,by omega,q5,by omega,h1,hn2.2,hb,hg,hat 38 _ (by omega) (Sp.GS hok),gb,hgw,?_⟩;refine(ih σ _ m s _ rest _ F' hT S LD r1).mono ?_;rintro e1 w1 ⟨rfl,ρ',L',hm⟩;refine⟨rfl,ρ',L',?_⟩;have c2:Ch F w (wz.setCell ⟨g,m*39+38,none⟩ (.int .i64 (x.sides-1))):=c.trans ch1 (fun k hk=>(f k hk).imp id (fun h=>by omega));have e2:(wz.setCell ⟨g,m*39+38,none⟩ (.int .i64 (x.sides-1))).heap[w.heap.size]?=some (.cells X 262 (0,0)):=Ak e (Ne.symm hgw) _;exact C0.step c2 f e2 hF hm
def kids (n:Int):List Int:=if n=0 then [] else [n]
theorem LY (n:Nd) (st:List Int):pile n st=kids n.left++(kids n.right++st):=rfl
theorem LC:kids 0 = []:=rfl
theorem FM {n:Int} (h:n≠0):kids n = [n]:=if_neg h
theorem LkD.room {m:Nat} {s:Nd×Nat} {x:Sp} {rest:List Int} (L:LkD σ ρ m s x) (hs:Sound σ rest):σ.free.length<σ.slots.length:=by
 have h1:=Ik hs.wf;have h2:0<Store.live σ:=List.countP_pos_iff.2 ⟨s,List.mem_of_getElem? L.hs,by simpa using L.live⟩;unfold AG.used at h1;omega
theorem Nz {m:Nat} {s:Nd×Nat} (hg:σ.get? ((m:Int)+1)=some s) (hd:(σ.drop Nd.zero ((m:Int)+1)).1=true) :
 sweep σ [(m:Int)+1] 0=(1+(sweep (σ.drop Nd.zero ((m:Int)+1)).2.2 (kids s.1.left) 0).1+(sweep (sweep (σ.drop Nd.zero ((m:Int)+1)).2.2 (kids s.1.left) 0).2 (kids s.1.right) 0).1,(sweep (sweep (σ.drop Nd.zero ((m:Int)+1)).2.2 (kids s.1.left) 0).2 (kids s.1.right) 0).2):=by
 rw[CE hd,Ap hg,LY,List.append_nil,L8,KM _ (kids s.1.left) (0+1)];simp only;rw[KM];simp only[Prod.mk.injEq,and_true];omega
end
section
variable {w w' : World} {b : Nat} {F : Nat→Prop} {ρ : Rs} {σ : AG Nd}
theorem C0.cells {wz:World} {X:Array Value} (h:C0 w wz b F ρ X) {i:Nat} {v:Value} (hv:X[i]?=some v):wz.cell? ⟨w.heap.size,i,none⟩=some v:=by
 obtain⟨F',_,_,_,e,_⟩:=h;exact AH e hv
theorem Tw {T:Nat} (ih:Oh T b) {m:Nat} {s:Nd×Nat} {x:Sp} {rest:List Int} (hT:total σ≤T+1) (hs:Sound σ (((m:Int)+1)::rest)) (L:LkD σ ρ m s x) (h:RAt w b F ρ) (h1:s.2=1) :
 Calls Tryz.prog 226 #[.pointer (some ⟨b,0,none⟩),.int .i64 ((m:Int)+1)] w fun e w'=>e=.returned (.int .i64 ((sweep σ [(m:Int)+1] 0).1:Nat))∧∃ρ',Lk (sweep σ [(m:Int)+1] 0).2 ρ'∧RMoved w w' b F ρ':=by
 have hx:=L.hx;obtain⟨hd,L1⟩:=L.go h1;have hfr:=L.room hs;have hdt:=Cl L.get;have hS1:=hs.dropped;rw[if_pos hd,Ap L.get,LY] at hS1;rw[Nz L.get hd];simp only;obtain⟨fk,fl,fri,fv,fkey,fd,fo,fos⟩:=L.fits;rw[←fl, ←fri] at hS1 ⊢;rw[←L.free, ←L.len] at hfr;obtain⟨σ1,hσ1⟩:∃σ1,σ1=(σ.drop Nd.zero ((m:Int)+1)).2.2:=⟨_,rfl⟩
 rw[←hσ1] at hS1 L1 hdt ⊢;have hT1:total σ1≤T:=by omega
 have hlv:live σ1≤65536:=by
  have e1:=Ik hS1.wf;have e2:=hS1.wf.len;have e3:=hS1.wf.room;unfold AG.used at e1;omega
 obtain⟨hS2,hc2,ht2,_⟩:=Kf σ1 (kids x.left) 0 _ hS1;have hT2:total (sweep σ1 (kids x.left) 0).2≤T:=by omega
 obtain⟨hS3,hc3,ht3,_⟩:=Kf _ (kids x.right) 0 _ hS2
 have hl0:x.left≠0→0<x.left:=fun e=>by
  obtain⟨y,hy⟩:=hS1.pile x.left (by rw[FM e];exact List.mem_cons_self ..);obtain⟨k,hk,_⟩:=AG.Ac hy;omega
 have hr0:x.right≠0→0<x.right:=fun e=>by
  obtain⟨y,hy⟩:=hS2.pile x.right (by rw[FM e];exact List.mem_cons_self ..);obtain⟨k,hk,_⟩:=AG.Ac hy;omega
 obtain⟨g,cap,cur,vf,hb,hg,q1,q2,q3,q4,q5,hok,hat,hex,fg,gb,hfit⟩:=Dy h hx;obtain⟨_,hn1,hn2⟩:=h.1.nums x (List.mem_of_getElem? hx);have hl:=h.1.len;have hsp:=h.1.space;have hfo:=h.Pj hb;obtain⟨af,cf,rfl⟩:=Am hfo;have c2:=AH hb (i:=2) rfl;have lb:=Ad hb;obtain⟨i0,hi,hz0,hz1,hz2⟩:=SlabN.DZ;have HI:=(hIq hi (aIq hz0 (aIq hz1 hz2)))
 obtain⟨X,hX⟩:∃X,X=x.cells:=⟨_,rfl⟩
 rw[←hX] at hex;obtain⟨Z,hZ⟩:∃Z,Z=Sp.zero.cells:=⟨_,rfl⟩
 have hzs:=Gx;have hzb:=Pk;rw[←hZ] at hzs hzb;have HX:=(hIq (by rw[hX];exact Sp.AY hok:X.size=39) (by rw[hX];exact Sp.cells_one hok:∀v∈X.toList,v.oneCell'=true))
 obtain⟨ow,how⟩:∃o,o=x.own:=⟨_,rfl⟩
 obtain⟨sd,hsd⟩:∃o,o=x.sides:=⟨_,rfl⟩
 have x37:X[37]?=some (.int .i64 ow):=by rw[hX,how];exact Sp.EG hok
 have x38:X[38]?=some (.int .i64 sd):=by rw[hX,hsd];exact Sp.GS hok
 have x35:X[35]?=some (.int .i64 x.left):=by rw[hX];exact Sp.Ge hok
 have x36:X[36]?=some (.int .i64 x.right):=by rw[hX];exact Sp.E8 hok
 have hos:ow=0∧sd=0:=by omega
 have HZ:=(hIq hzs (aIq (by rw[hZ];exact Sp.AY Sp.BP:Z.size=39) (aIq (by rw[hZ];exact Sp.cells_one Sp.BP:∀v∈Z.toList,v.oneCell'=true) hzb)))
 have HH:=(hIq hg (aIq hex hfit))
 have hw1:IntKind.i64.wrap (ow+sd)=ow+sd:=IntWalk.i64_in _ (by omega);have hp':decide (0<ow+sd)=false:=decide_eq_false (by omega);have aw1:AN w ((w.alloc (.cells Z 262)).setRow w.heap.size X):=((Ch.refl _ w).alloc _).setRow (.inr (Nat.le_refl _)) _;have hrow1:=AK (heap_alloc_new w (.cells Z 262)) X;obtain⟨w1,hw1'⟩:∃w1,w1=(w.alloc (.cells Z 262)).setRow w.heap.size X:=⟨_,rfl⟩
 have hs1:w1.heap.size=w.heap.size+1:=by rw[hw1'];simp
 have c37:=AH hrow1 x37;have c38:=AH hrow1 x38;have hF:=h.lt;obtain⟨hfz,hwp,hcw,hb2⟩:=(h.adds aw1).XJ hx (aw1.row hb id) (aw1.row hg id);rw[←hZ] at hwp hcw hb2;obtain⟨new,HN⟩:∃new,(splice cur.toList (m*39) Z.toList).toArray=new:=⟨_,rfl⟩
 rw[HN, ←hw1'] at hwp hcw hb2;rw[←hw1'] at aw1 hrow1;have HW1:=(hIq aw1 (aIq hrow1 (aIq (aw1.row hb id) (aw1.row hg id))))
 have HW2:=(hIq hwp (aIq hcw hb2))
 have HNN:=Lib.hid HN;have HL:=(hIq L1 (aIq hS1 (aIq hS2 (aIq hT1 hT2))))
 have HF:=Lib.hid hF;have HIH:=Lib.hid ih;have HX5:=(hIq x35 x36)
 have hgw:g≠w.heap.size:=by have:=hF g fg;omega
 have hbw:b≠w.heap.size:=by omega
 obtain⟨sl,hsl⟩:∃sl,sl=ρ.spots.length:=⟨_,rfl⟩
 have HSL:=Lib.hid hsl;rw[←hsl] at c2 q5 hl hfr;have hml:m≤65535:=by omega
 have hnf6:ρ.free.length≤65536:=by omega
 have HQ5:=(hIq q5 hfr)
 obtain⟨lf,hlf⟩:∃a,a=x.left:=⟨_,rfl⟩
 obtain⟨rg,hrg⟩:∃a,a=x.right:=⟨_,rfl⟩
 rw[←hlf] at hl0 HL HX5 hc2 hc3 ⊢;rw[←hrg] at hr0 HL HX5 hc3 ⊢;obtain⟨f1,hf1⟩:∃a,a=(sweep σ1 (kids lf) 0).1:=⟨_,rfl⟩
 obtain⟨σ2,hσ2⟩:∃a,a=(sweep σ1 (kids lf) 0).2:=⟨_,rfl⟩
 rw[←hσ2] at hc2 hc3 HL ⊢;rw[←hf1] at hc2 ⊢;obtain⟨f2,hf2⟩:∃a,a=(sweep σ2 (kids rg) 0).1:=⟨_,rfl⟩
 obtain⟨σ3,hσ3⟩:∃a,a=(sweep σ2 (kids rg) 0).2:=⟨_,rfl⟩
 rw[←hσ3] at hc3 ⊢;rw[←hf2] at hc3 ⊢;have hf1b:f1≤65536:=by omega
 have hf2b:f2≤65536:=by omega
 have HE:=(hIq hf1 (aIq hσ2 (aIq hf2 hσ3)))
 clear hf1 hσ2 hf2 hσ3 hlf hrg hsl hfr hb hg q1 q2 q3 q4 hok hat hex fg gb hfit h hX hZ hzs hzb x37 x38 x35 x36 how hsd hx L1 hS1 hS2 hS3 hT1 hT2 hT hs L hd hdt hσ1 hc2 hc3 ht2 ht3 hlv fk fl fri fv fkey fd fo fos h1 aw1 hrow1 hwp hcw hb2 HN hF hfo hi hz0 hz1 hz2 ih hn1 hn2 hos;go_enter Tryz.func226,Tryz.ntmps226
 go_upto_region 4 with(first
  | fail
  | ((with_reducible show zOq (.alloc 262));refine AO rfl 262 rfl (.agg Z) HZ.out.1 ?_;dsimp only[Value.cells];try simp only[World.size_alloc])
  | ((with_reducible show zOq (.load 262 _));refine AJ rfl 262 _ rfl g (m*39) rfl HH.out.1 Tryz.underlying262 rfl Cf HH.out.2.2 X HH.out.2.1 ?_)
  | ((with_reducible show zOq (.store 262 _ _));refine AI rfl 262 _ _ rfl w.heap.size 0 X rfl rfl (heap_alloc_new _ _) (by rw[Cf,HX.out.1]) (by rw[HX.out.1,HZ.out.2.1];omega) HX.out.2 X (by rw[AT _ _ (by rw[Array.length_toList,Array.length_toList,HX.out.1,HZ.out.2.1])]) ?_))
 rw[←hw1'];have HFZ:=Lib.hid hfz;clear c2 lb c37 c38 hw1' hfz hw1 hp';have c2:=AH HW1.out.2.2.1 (i:=2) rfl;rw[←HSL.out] at c2;have l1:=Ad HW1.out.2.2.1
 go_upto_region 5 with(first
  | fail
  | ((with_reducible show zOq (.build 262 #[]));refine Ax rfl 262 rfl Z HZ.out.2.2.2 ?_)
  | ((with_reducible show zOq (.store 262 _ _));refine AI rfl 262 _ _ rfl g (m*39) Z rfl rfl HW1.out.2.2.2 (by rw[Cf,HZ.out.2.1]) (by rw[HZ.out.2.1];exact HFZ.out) HZ.out.2.2.1 new HNN.out ?_))
 refine DQ (fun w2 hw2=>?_);have r2:RAt w2 b F (ρ.setAt m Sp.zero):=by rw[hw2];exact HW2.out.1
 have b2:w2.heap[b]?=some (.cells #[.bool true,.int .i64 (ρ.space:Nat),.slice (some ⟨g,0,none⟩) ρ.spots.length cap,.slice af ρ.free.length cf] 319 (0,0)):=by rw[hw2];exact HW2.out.2.2
 have ch2:Ch F w1 w2:=by rw[hw2];exact HW2.out.2.1
 have eB2:w2.heap[w.heap.size]?=some (.cells X 262 (0,0)):=by rw[hw2];exact row_setRow HW1.out.2.1 (Ne.symm hgw) new
 have cF:Ch F w w2:=(HW1.out.1.mono (G:=F) (fun _ _ h=>h.elim)).trans ch2 (fun k hk=>.inl hk);have ow2:w2.ownsRow 0 3 1 (.slice af ρ.free.length cf) ρ.free.length (ints ρ.free):=r2.Pj b2;have HR2:=(hIq r2 (aIq b2 (aIq cF (aIq eB2 ow2))))
 clear c2 l1 hw2 r2 ch2 eB2 cF ow2;have c3:=AH b2 (i:=3) rfl;have l2:=Ad b2;have fr3:=Ai b2 3;clear b2
 go_upto_region 7 with(first
  | fail
  | (at_builtin;refine BI rfl _ _ 61 rfl 3 i0 (.int .i64 0) 1 8 Tryz.underlying61 HI.out.1 HI.out.2.1 HI.out.2.2.1 HI.out.2.2.2 rfl (by decide) (.slice af ρ.free.length cf) ρ.free.length (ints ρ.free) rfl (HR2.out.2.2.2.2.alloc _) ⟨w2.heap.size,0,none⟩ 1 1 [.int .i64 ((m:Int)+1)] rfl rfl (cell_one_new _ _ _) (by simp[Value.oneCell']) (by unfold maxLen;omega) (by omega) ?_;intro v' w4 own' grow' ob';obtain⟨ro,rc,rfl⟩:=Am own';have PF:=Lib.hid (RAt.SV HR2.out.1 (m:=m) (by show m<(ρ.spots.set m Sp.zero).length;rw[List.length_set, ←HSL.out];exact HQ5.out.1) (by show ρ.free.length<(ρ.spots.set m Sp.zero).length;rw[List.length_set, ←HSL.out];exact HQ5.out.2) HR2.out.2.1 ((Ch.refl (fun _=>False) w2).alloc _) own' grow' ob');have r4b:=(((Ch.refl (fun j=>(Value.slice af ρ.free.length cf).ownBlock=some j) w2).alloc _).grown grow' (fun j hj=>.inl hj)).row HR2.out.2.1 (RAt.Vm HR2.out.1 HR2.out.2.1);clear own' grow' ob';have c4:=AH r4b (i:=3) rfl;have f4:=Ai r4b 3;have l4:=Ad r4b;clear r4b))
 refine DQ (fun w5 hw5=>?_)
 have FA:C0 w w5 b F (ρ.freed m) X:=by
  rw[hw5];exact C0.step HR2.out.2.2.1 (fun k hk=>.inl hk) HR2.out.2.2.2.1 HF.out PF.out
 have H5:=Lib.hid FA;clear c3 l2 fr3 c4 f4 l4 hw5 FA PF;have hwf1:IntKind.i64.wrap (1+(f1:Int))=1+(f1:Int):=IntWalk.i64_in _ (by omega);have hwf2:IntKind.i64.wrap (1+(f1:Int)+(f2:Int))=1+(f1:Int)+(f2:Int):=IntWalk.i64_in _ (by omega);have cl:=H5.out.cells HX5.out.1;go_upto_if 41 with fail;go_cut [6] (fun s6 wx=>∃ρ2,s6=.int .i64 (1+(f1:Int))∧Lk σ2 ρ2∧C0 w wx b F ρ2 X)
 case first =>
  by_cases h0:lf=0
  · have k1:f1=0∧σ2=σ1:=by
     have e1:=HE.out.1;have e2:=HE.out.2.1;rw[h0,LC,CK] at e1 e2;exact⟨e1,e2⟩
    have hl2:¬0<lf:=by omega
    have K1:=Lib.hid k1;clear k1;clear h0 hl0;go_wp2_with fail;go_meet;exact⟨_,by rw[K1.out.1];rfl,by rw[K1.out.2];exact HL.out.1,H5.out⟩
  have hl1:=hl0 h0;have hl2:True:=trivial
  have hS:Sound σ1 (lf::(kids rg++rest)):=by
   have:=HL.out.2.1;rw[FM h0] at this;exact this
  obtain⟨m2,g2,cap2,vf2,x2,cur2,hlm,k1,k2,k3,k4,k5,eb,eg,ec,gb2,gB2,KID⟩:=(H5.out.drew).kid HIH.out HL.out.1 HL.out.2.2.2.1 hS;rw[←FM h0, ←HE.out.1, ←HE.out.2.1] at KID
  have eB:w5.drew.heap[w.heap.size]?=some (.cells X 262 (0,0)):=by
   obtain⟨_,_,_,_,e,_⟩:=H5.out;exact AM e
  obtain⟨sd2,hsd2⟩:∃a,a=x2.sides:=⟨_,rfl⟩
  rw[←hsd2] at k4 k5 ec KID;have hws:IntKind.i64.wrap (sd2-1)=sd2-1:=IntWalk.i64_in _ (by omega);obtain⟨sl2,hsl2⟩:∃a,a=(ρ.freed m).spots.length:=⟨_,rfl⟩
  rw[←hsl2] at k2 k3 eb;have clx:=AH (Ak eB (Ne.symm gB2) (.int .i64 (sd2-1)) (p:=⟨g2,m2*39+38,none⟩)) HX5.out.1;rw[show w5.drew.setCell ⟨g2,m2*39+38,none⟩ (.int .i64 (sd2-1))=(w5.setCell ⟨g2,m2*39+38,none⟩ (.int .i64 (sd2-1))).drew from rfl] at KID clx;have KK :=Lib.hid KID;have hwm:IntKind.i64.wrap (m2:Int)=(m2:Int):=IntWalk.i64_in _ (by omega);have hms:(m2:Int)<(sl2:Int):=by omega
  have c2:=AH eb (i:=2) rfl;have cs:=AH eg ec;have fs:=Ai eg (m2*39+38);have lg:=Ad eg;have cl2:=AH eB HX5.out.1;clear KID eb eg ec eB hsd2 hsl2 hS h0 hl0 gb2 gB2;subst hlm;go_wp2_with fail;refine AP (fun w0=>w0=w5.drew) 13 [(0,false),(1,false),(2,false),(3,false),(4,false),(5,false),(6,false),(7,false),(8,false),(9,false),(10,false),(11,false),(12,false)] (by kernel_rfl) (by kernel_rfl) rfl ?_
  iterate 13
   refine plan_look rfl rfl (fun w0 hS=>(by subst hS;go_simp;try rfl)) ?_;simp only[Act.put,nAq,nBq,nCq]
  refine AZ ?_;simp only[List.drop_succ_cons,List.drop_zero];go_wp2;refine NoPanic.normal ?_;clear cl cl2 c2 cs fs lg;go_wp2_with fail;refine KK.out.mono ?_;rintro e w6 ⟨rfl,ρ2,L2,F2⟩;have H6:=(hIq L2 F2)
  clear L2 F2;go_wp2_with fail;go_meet;exact⟨ρ2,rfl,H6.out.1,H6.out.2⟩
 obtain⟨ρ2,rfl,L2,F2⟩:=hcut;have H7:=(hIq L2 F2)
 clear L2 F2 cl hl0 H5;have cr:=H7.out.2.cells HX5.out.2;by_cases h0:rg=0
 · have k1:f2=0∧σ3=σ2:=by
    have e1:=HE.out.2.2.1;have e2:=HE.out.2.2.2;rw[h0,LC,CK] at e1 e2;exact⟨e1,e2⟩
   have hl2:decide (0<rg)=false:=decide_eq_false (by omega);have hl3:¬0<rg:=by omega
   have K1:=Lib.hid k1;clear k1;clear h0 hr0;go_wp2_with fail;go_ret;refine⟨by rw[K1.out.1];push_cast;rfl,ρ2,by rw[K1.out.2];exact H7.out.1,H7.out.2.Fj⟩
 have hl1:=hr0 h0;have hl2:decide (0<rg)=true:=decide_eq_true hl1
 have hS:Sound σ2 (rg::rest):=by
  have:=HL.out.2.2.1;rw[FM h0] at this;exact this
 obtain⟨m2,g2,cap2,vf2,x2,cur2,hlm,k1,k2,k3,k4,k5,eb,eg,ec,gb2,gB2,KID⟩:=(H7.out.2.drew).kid HIH.out H7.out.1 HL.out.2.2.2.2 hS;rw[←FM h0, ←HE.out.2.2.1, ←HE.out.2.2.2] at KID
 have eB:wc.drew.heap[w.heap.size]?=some (.cells X 262 (0,0)):=by
  obtain⟨_,_,_,_,e,_⟩:=H7.out.2;exact AM e
 obtain⟨sd2,hsd2⟩:∃a,a=x2.sides:=⟨_,rfl⟩
 rw[←hsd2] at k4 k5 ec KID;have hws:IntKind.i64.wrap (sd2-1)=sd2-1:=IntWalk.i64_in _ (by omega);obtain⟨sl2,hsl2⟩:∃a,a=ρ2.spots.length:=⟨_,rfl⟩
 rw[←hsl2] at k2 k3 eb;have clx:=AH (Ak eB (Ne.symm gB2) (.int .i64 (sd2-1)) (p:=⟨g2,m2*39+38,none⟩)) HX5.out.2;rw[show wc.drew.setCell ⟨g2,m2*39+38,none⟩ (.int .i64 (sd2-1))=(wc.setCell ⟨g2,m2*39+38,none⟩ (.int .i64 (sd2-1))).drew from rfl] at KID clx;have KK :=Lib.hid KID;have hwm:IntKind.i64.wrap (m2:Int)=(m2:Int):=IntWalk.i64_in _ (by omega);have hms:(m2:Int)<(sl2:Int):=by omega
 have c2:=AH eb (i:=2) rfl;have cs:=AH eg ec;have fs:=Ai eg (m2*39+38);have lg:=Ad eg;have cl2:=AH eB HX5.out.2;clear KID eb eg ec eB hsd2 hsl2 hS h0 hr0 gb2 gB2;subst hlm;go_wp2_with fail;refine AP (fun w0=>w0=wc.drew) 13 [(0,false),(1,false),(2,false),(3,false),(4,false),(5,false),(6,false),(7,false),(8,false),(9,false),(10,false),(11,false),(12,false)] (by kernel_rfl) (by kernel_rfl) rfl ?_
 iterate 13
  refine plan_look rfl rfl (fun w0 hS=>(by subst hS;go_simp;try rfl)) ?_;simp only[Act.put,nAq,nBq,nCq]
 refine AZ ?_;simp only[List.drop_succ_cons,List.drop_zero];go_wp2;refine NoPanic.normal ?_;clear cr cl2 c2 cs fs lg;go_wp2_with fail;refine KK.out.mono ?_;rintro e w6 ⟨rfl,ρ3,L3,F3⟩;have H6:=(hIq L3 F3)
 clear L3 F3;go_wp2_with fail;go_ret;exact⟨by push_cast;rfl,ρ3,H6.out.1,H6.out.2.Fj⟩
theorem KP {x:Nat}:∀ {l:List Nat},x∈l→x≤l.sum
 | y::l,h=>by
  rw[List.sum_cons];rcases List.mem_cons.1 h with rfl|h
  · omega
  have:=KP h;omega
theorem Q9 (b:Nat):∀T,Oh T b:=by
 intro T
 induction T with
 | zero =>
  intro σ ρ m s x rest w F hT hs L h;exfalso;have h1:=L.live;have h2:s.2≤total σ:=KP (List.mem_map.2 ⟨s,List.mem_of_getElem? L.hs,rfl⟩);omega
 | succ T ih =>
  intro σ ρ m s x rest w F hT hs L h;by_cases h1:s.2=1
  · exact Tw ih hT hs L h h1
  obtain⟨hd,L1⟩:=L.Ae h1;obtain⟨_,_,_,_,_,_,_,f8⟩:=L.fits;have:=L.live;rw[CD hd,CK];refine(Oc h L.hx (by omega)).mono ?_;rintro e w' ⟨rfl,a⟩;exact⟨rfl,ρ,L1,RMoved.same h a⟩
end
section
variable {w w' : World} {b : Nat} {F : Nat→Prop} {ρ : Rs} {σ : AG Nd}
def Sp.Gn (x:Sp):Sp := { x with own:=x.own-1 }
theorem Lk.down (L:Lk σ ρ) (G:Good σ) {n:Int} (h1:Store.has σ n=true) (h2:(nd σ n).held≠0) :
 ∃(m:Nat) (s:Nd×Nat) (x:Sp),n=(m:Int)+1∧ρ.spots[m]?=Option.some x∧ρ.sp n=x∧1≤x.own∧LkD (bump σ n (-1)) (ρ.setAt m x.Gn) m s x.Gn∧Sound (bump σ n (-1)) [n]:=by
 obtain⟨s,hs'⟩:=Gw h1;rw[Ap hs'] at h2;obtain⟨m,x,rfl,hlt,hsm,hx,h0,hsp,hk,hk0,hle,hri,hv,hkey,hd,ho,hos⟩:=L.some G hs';obtain⟨b1,b2,b3⟩:=G.sound.ER hs';have hlr:=(List.getElem?_eq_some_iff.1 hx).1;refine⟨m,(BC s.1 (wrap64 (s.1.held + -1)),s.2),x,rfl,hx,hsp,by omega,?_,Sound.bump G.sound hs' ⟨by omega,by omega⟩ (by omega) ?_ (fun k hk=>?_)⟩
 · rw[Cq hsm h0]
   refine⟨L.space,L.free,by simp[Rs.setAt,L.len],List.getElem?_set_self hlt,List.getElem?_set_self hlr,h0,⟨hk,hle,hri,hv,hkey,hd,?_,?_⟩,fun j t y hj ht hy=>?_⟩
   · show x.own-1=wrap64 (s.1.held + -1)
     unfold wrap64;omega
   · show x.own-1+x.sides+1=(s.2:Int)
     omega
   simp only[Rs.setAt] at ht hy;rw[List.getElem?_set_ne (Ne.symm hj)] at ht hy;exact L.slot j t y ht hy
 · simp
 rw[List.count_cons_of_ne (Ne.symm hk)]
theorem RD (h:RAt w b F ρ) (L:Lk σ ρ) (G:Good σ) (n:Int) (hc:¬(Store.has σ n=true∧(nd σ n).held≠0)) :
 Calls Tryz.prog 156 #[.pointer (some ⟨b,0,none⟩),.int .i64 n] w fun e w'=>e=.returned (.tuple #[.int .i64 0,.int .i64 7])∧AN w w':=by
 have hno:=Cd h;have hh:=FX h n;have hg:=DJ h n;obtain⟨hok,ho,hs⟩:=h.1.ok n;obtain⟨N,hN⟩:∃N,N=(ρ.sp n).cells:=⟨_,rfl⟩
 have k0:=Sp.EG hok;have e0:=L.own G n;rw[←hN] at hg k0;rw[L.has G] at hh;have HN:=Lib.hid hno;have HG:=Lib.hid hg;cases hb:Store.has σ n with
 | false =>
  rw[hb] at hh;have HH:=Lib.hid hh;clear hh hg hok ho hs hN k0 h hb hc hno L G e0;go_enter Tryz.func156,Tryz.ntmps156;go_wp2_with fail;refine HN.out.mono ?_;rintro e w1 ⟨rfl,rfl⟩;go_wp2_with fail;refine HH.out.mono ?_;rintro e w1 ⟨rfl,rfl⟩;go_wp2;go_ret2;exact⟨rfl,Ch.refl _ _⟩
 | true =>
  rw[hb] at hh;have HH:=Lib.hid hh
  have hz:(ρ.sp n).own=0:=by
   rw[e0];exact Classical.byContradiction fun e=>hc ⟨hb,e⟩
  rw[hz] at k0;have hfd:=fun w=>BJ (P:=Tryz.prog) (w:=w) Tryz.underlying262 (i:=5) rfl (Tryz.isAgg3 w) k0
  clear hh hg hok ho hs hN k0 h hb hc hno L G e0 hz;go_enter Tryz.func156,Tryz.ntmps156;go_wp2_with fail;refine HN.out.mono ?_;rintro e w1 ⟨rfl,rfl⟩;go_wp2_with fail;refine HH.out.mono ?_;rintro e w1 ⟨rfl,rfl⟩;go_wp2_with fail;refine HG.out.mono ?_;rintro e w1 ⟨rfl,a1⟩;have A1:=Lib.hid a1;clear a1;go_wp2;go_ret2;exact⟨rfl,A1.out⟩
theorem O9 (h:RAt w b F ρ) (L:Lk σ ρ) (G:Good σ) (n:Int) (h1:Store.has σ n=true) (h2:(nd σ n).held≠0) :
 Calls Tryz.prog 156 #[.pointer (some ⟨b,0,none⟩),.int .i64 n] w fun e w'=>e=.returned (.tuple #[.int .i64 ((sweep (bump σ n (-1)) [n] 0).1:Nat),.int .i64 0])∧∃ρ',Lk (sweep (bump σ n (-1)) [n] 0).2 ρ'∧RMoved w w' b F ρ':=by
 have hno:=Cd h;have hh:=FX h n;have hg:=DJ h n;rw[L.has G,h1] at hh;obtain⟨m,s,x,rfl,hx,hsp,hown,LD,hS⟩:=L.down G h1 h2;rw[hsp] at hg;obtain⟨hok,hn1,hn2⟩:=h.1.nums x (List.mem_of_getElem? hx);obtain⟨N,hN⟩:∃N,N=x.cells:=⟨_,rfl⟩
 have k0:=Sp.EG hok;rw[←hN] at hg k0;have hfd:=fun w=>BJ (P:=Tryz.prog) (w:=w) Tryz.underlying262 (i:=5) rfl (Tryz.isAgg3 w) k0
 obtain⟨ow,how⟩:∃o,o=x.own:=⟨_,rfl⟩
 rw[←how] at hfd;have hb0:(ow == 0)=false:=by simpa using (show ¬ow=0 by omega)
 have how1:1≤ow:=by omega
 have how2:ow≤2147483648:=by omega
 have HN:=Lib.hid hno;have HG:=Lib.hid hg;have HH:=Lib.hid hh;have HA:=Lib.hid h;have HX:=(hIq hx (aIq hok (aIq hn1 (aIq hn2 how))))
 have HL:=(hIq LD hS)
 clear hh hg hok hN k0 h h1 h2 hno L G LD hS hn1 hn2 how hx hsp hown;go_enter Tryz.func156,Tryz.ntmps156;go_wp2_with fail;refine HN.out.mono ?_;rintro e w1 ⟨rfl,rfl⟩;go_wp2_with fail;refine HH.out.mono ?_;rintro e w1 ⟨rfl,rfl⟩;go_wp2_with fail;refine HG.out.mono ?_;rintro e w1 ⟨rfl,a1⟩;have h:=HA.out.adds a1;obtain⟨hx,hok,hn1,hn2,how⟩:=HX.out;obtain⟨g,cap,cur,vf,hb,hg,q1,q2,q3,q4,q5,_,hat,hex,fg,gb,hfit⟩:=Dy h hx;have hl:=h.1.len;have hs:=h.1.space;obtain⟨r1,ch1,hb1⟩:=h.Kd hx hb 37 (.int .i64 (x.own-1)) (by omega) (Sp.Ig hok _) (y:=x.Gn) ⟨⟨hok.key,hok.addr,hok.val⟩,⟨by show 0≤x.own-1;omega,by show x.own-1≤_;omega⟩,hn2⟩ ⟨rfl,rfl⟩;have KID:=Q9 b _ _ _ m s _ [] _ F (Nat.le_refl _) HL.out.2 HL.out.1 r1;have c2:=AH hb (i:=2) rfl;have co:=AH hg (hat 37 _ (by omega) (Sp.EG hok));have fo:=Ai hg (m*39+37);have lg:=Ad hg;rw[←how] at co ch1 KID;have R1:=(hIq a1 ch1)
 have KK:=Lib.hid KID;have hw1:IntKind.i64.wrap (ow-1)=ow-1:=IntWalk.i64_in _ (by omega);obtain⟨L,hL⟩:∃L,L=ρ.spots.length:=⟨_,rfl⟩
 rw[←hL] at c2 q5 hl;have hml:m≤65535:=by omega
 clear hb hg q1 q2 q3 q4 hok hat hex fg gb hfit h r1 ch1 hb1 how hx hL a1 KID hn1 hn2 HX;go_wp2_with fail;refine KK.out.mono ?_;rintro e w2 ⟨rfl,ρ',L',hm⟩;have H2:=(hIq L' hm)
 clear L' hm;go_wp2;go_ret2;refine⟨rfl,ρ',H2.out.1,?_⟩;obtain⟨F',r,c,f⟩:=H2.out.2;have z1:=R1.out.1.size;have z2:=R1.out.2.size;exact⟨F',r,((R1.out.1.mono (G:=F) (fun _ _ h=>h.elim)).trans R1.out.2 (fun k hk=>.inl hk)).trans c (fun k hk=>.inl hk),fun k hk=>(f k hk).imp id (fun h=>by omega)⟩
theorem Sq (h:RAt w b F ρ) (L:Lk σ ρ) (G:Good σ) (n:Int) :
 Calls Tryz.prog 156 #[.pointer (some ⟨b,0,none⟩),.int .i64 n] w fun e w'=>e=.returned (.tuple #[.int .i64 (Aw σ n).1,.int .i64 (Aw σ n).2.1])∧∃ρ',Lk (Aw σ n).2.2 ρ'∧RMoved w w' b F ρ':=by
 unfold Aw;by_cases hc:Store.has σ n=true∧(nd σ n).held≠0
 · rw[if_pos hc]
   exact O9 h L G n hc.1 hc.2
 rw[if_neg hc];exact(RD h L G n hc).mono fun e w' ⟨he,a⟩=>⟨he,ρ,L,RMoved.same h a⟩
end
end Go.Proofs.YtngbdbpofifimaaGreat.Store
