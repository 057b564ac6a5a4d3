/- Laws of the layers below. -/
import Derived.Test.YtngbdbpofifimaaGreatQm20
set_option maxHeartbeats 3200000
set_option maxRecDepth 100000
set_option linter.unusedVariables false
namespace Go.Proofs.YtngbdbpofifimaaGreat.Store
open Go.RowKit Go.Proofs.YtngbdbpofifimaaGreat.ShaW Go.Proofs.YtngbdbpofifimaaGreat.Path
section
variable {w w' : World} {b : Nat} {F : Nat→Prop} {ρ : Rs}
theorem RAt.Kd (h:RAt w b F ρ) {m:Nat} {x y:Sp} (hx:ρ.spots[m]?=some x) {g cap:Nat} {vf:Value} (hb:w.heap[b]?=some (.cells #[.bool true,.int .i64 (ρ.space:Nat),.slice (some ⟨g,0,none⟩) ρ.spots.length cap,vf] 319 (0,0)))
 (j:Nat) (v:Value) (hj:j<39) (hy:x.cells.setIfInBounds j v=y.cells) (hok:y.Ok∧(0≤y.own∧y.own≤2147483648)∧(0≤y.sides∧y.sides≤2147483648)) (ha:y.addr=x.addr∧y.value=x.value) :
 RAt (w.setCell ⟨g,m*39+j,none⟩ v) b F (ρ.setAt m y)∧Ch F w (w.setCell ⟨g,m*39+j,none⟩ v)∧(w.setCell ⟨g,m*39+j,none⟩ v).heap[b]?=some (.cells #[.bool true,.int .i64 (ρ.space:Nat),.slice (some ⟨g,0,none⟩) ρ.spots.length cap,vf] 319 (0,0)):=by
 obtain⟨h0,vs,vf',h1,h2,h3,h4,h5,h6,h7,h8⟩:=h;rw[hb] at h1;simp only[Option.some.injEq,Obj.cells.injEq,and_true,true_and,Array.mk.injEq,List.cons.injEq,and_self] at h1;obtain⟨rfl,rfl⟩:=h1;have hm:=(List.getElem?_eq_some_iff.1 hx).1;obtain⟨g',cap',cur,e,hg,hc1,hc2,hc3,hc4⟩:=Bq h2 (by omega);cases e;obtain⟨fg,gb⟩:=h6 g rfl
 have hsz:∀a∈ρ.spots.map Sp.cells,a.size=39:=fun a ha=>by
  obtain⟨z,hz,rfl⟩:=List.mem_map.1 ha;exact Sp.AY (h0.nums z hz).1
 have hxm:(ρ.spots.map Sp.cells)[m]?=some x.cells:=by rw[List.getElem?_map,hx];rfl
 have hb2:=Ak (p:=⟨g,m*39+j,none⟩) hb (Ne.symm gb) v;have hch:Ch (fun k=>k=g) w (w.setCell ⟨g,m*39+j,none⟩ v):=(Ch.refl (fun k=>k=g) w).setCell (p:=⟨g,m*39+j,none⟩) (.inl rfl) v;refine⟨⟨?_,_,_,hb2,?_,?_,fun z hz=>?_,h5,fun k hk=>h6 k hk,h7,fun k hk=>by simpa using h8 k hk⟩,(Ch.refl _ w).setCell (p:=⟨g,m*39+j,none⟩) (.inl fg) v,hb2⟩
 · refine⟨h0.space,by simpa[Rs.setAt] using h0.len,fun n hn=>by simpa[Rs.setAt] using h0.free n hn,by simpa[Rs.setAt] using h0.flen,fun z hz=>?_⟩
   rcases List.mem_or_eq_of_mem_set hz with hz|rfl
   · exact h0.nums z hz
   exact hok
 · have:=AV hg (m*39+j) v
   show World.ownsRow _ 0 _ 39 _ (ρ.spots.set m y).length (Bz ((ρ.spots.set m y).map Sp.cells))
   rw[List.length_set];refine MT this hc1 hc2 (by simpa using hc3) ?_;rw[Array.toList_setIfInBounds,List.take_set,hc4,QB hsz hxm hj,hy,List.map_set]
 · exact hch.owns h3 (fun k hk e=>(h7 k hk).2.2 (by subst e;rfl))
 have key:∀z:Sp,(Bytes w z.addr z.value∧∀k,z.addr.ownBlock=some k→F k∧k≠b∧(Value.slice (some ⟨g,0,none⟩) ρ.spots.length cap).ownBlock≠some k∧vf.ownBlock≠some k)→Bytes (w.setCell ⟨g,m*39+j,none⟩ v) z.addr z.value:=fun z hz =>
  hz.1.Ae hch (fun k hk e=>(hz.2 k hk).2.2.1 (by subst e;rfl))
 rcases List.mem_or_eq_of_mem_set hz with hz|rfl
 · exact⟨key z (h4 z hz),(h4 z hz).2⟩
 have hz:=h4 x (List.mem_of_getElem? hx);rw[←ha.1, ←ha.2] at hz;exact⟨key _ hz,hz.2⟩
def Sp.Ew (x:Sp):Sp := { x with own:=x.own-1,sides:=x.sides+1 }
theorem OE (h:RAt w b F ρ):Calls Tryz.prog 330 #[.pointer (some ⟨b,0,none⟩),.int .i64 0] w fun e w'=>e=.returned (.tuple #[])∧w=w':=by
 go_enter Tryz.func330,Tryz.ntmps330;go_wp2;go_end0;exact⟨rfl,rfl⟩
theorem Sf (h:RAt w b F ρ) {m:Nat} {x:Sp} (hx:ρ.spots[m]?=some x) (h1:1≤x.own) (h2:x.sides<2147483648):Calls Tryz.prog 330 #[.pointer (some ⟨b,0,none⟩),.int .i64 ((m:Int)+1)] w fun e w'=>e=.returned (.tuple #[])∧RMoved w w' b F (ρ.setAt m x.Ew):=by
 obtain⟨g,cap,cur,vf,hb,hg,q1,q2,q3,q4,q5,hok,hat,hex,fg,gb,hfit⟩:=Dy h hx;obtain⟨_,hn1,hn2⟩:=h.1.nums x (List.mem_of_getElem? hx);have hl:=h.1.len;have hs:=h.1.space;obtain⟨r1,ch1,hb1⟩:=h.Kd hx hb 37 (.int .i64 (x.own-1)) (by omega) (Sp.Ig hok _) ⟨⟨hok.key,hok.addr,hok.val⟩,⟨by show 0≤x.own-1;omega,by show x.own-1≤_;omega⟩,hn2⟩ ⟨rfl,rfl⟩;have hx1:(ρ.setAt m { x with own:=x.own-1 }).spots[m]?=some { x with own:=x.own-1 }:=List.getElem?_set_self q5
 have hb1':(w.setCell ⟨g,m*39+37,none⟩ (.int .i64 (x.own-1))).heap[b]?=some (.cells #[.bool true,.int .i64 ((ρ.setAt m { x with own:=x.own-1 }).space:Nat),.slice (some ⟨g,0,none⟩) (ρ.setAt m { x with own:=x.own-1 }).spots.length cap,vf] 319 (0,0)):=by
  rw[show(ρ.setAt m { x with own:=x.own-1 }).spots.length=ρ.spots.length from List.length_set ..];exact hb1
 obtain⟨r2,ch2,_⟩:=r1.Kd hx1 hb1' 38 (.int .i64 (x.sides+1)) (by omega) (Sp.LW (x := { x with own:=x.own-1 }) ⟨hok.key,hok.addr,hok.val⟩ _) (y:=x.Ew) ⟨⟨hok.key,hok.addr,hok.val⟩,⟨by show 0≤x.own-1;omega,by show x.own-1≤_;omega⟩,⟨by show 0≤x.sides+1;omega,by show x.sides+1≤_;omega⟩⟩ ⟨rfl,rfl⟩;have hset:(ρ.setAt m { x with own:=x.own-1 }).setAt m x.Ew=ρ.setAt m x.Ew:=by unfold Rs.setAt;simp
 rw[hset] at r2;have R2:=(hIq r2 (Ch.Bj ch1 ch2))
 have c2:=AH hb (i:=2) rfl;have co:=AH hg (hat 37 _ (by omega) (Sp.EG hok));have cs:=AH hg (hat 38 _ (by omega) (Sp.GS hok));have fo:=Ai hg (m*39+37);have fs:=Ai hg (m*39+38);have lg:=Ad hg;have hbg:b≠g:=Ne.symm gb;obtain⟨ow,how⟩:∃o,o=x.own:=⟨_,rfl⟩
 obtain⟨sd,hsd⟩:∃o,o=x.sides:=⟨_,rfl⟩
 rw[←how] at co h1 hn1;rw[←hsd] at cs h2 hn2;have hw1:IntKind.i64.wrap (ow-1)=ow-1:=IntWalk.i64_in _ (by omega);have hw2:IntKind.i64.wrap (sd+1)=sd+1:=IntWalk.i64_in _ (by omega);rw[←how, ←hsd] at R2;obtain⟨L,hL⟩:∃L,L=ρ.spots.length:=⟨_,rfl⟩
 rw[←hL] at c2 q5 hl;have hml:m≤65535:=by omega
 clear hb hg q1 q2 q3 q4 hok hat hex fg gb hfit h r1 ch1 hb1 hx1 hb1' r2 ch2 hset how hsd hx hL;go_enter Tryz.func330,Tryz.ntmps330;go_wp2;go_end0;exact⟨rfl,F,R2.out.1,R2.out.2,fun k hk=>.inl hk⟩
theorem Rs.CF {ρ:Rs} {n:Int} (h:ρ.has n=true):∃(m:Nat) (x:Sp),n=(m:Int)+1∧ρ.spots[m]?=some x∧x.kind≠0∧ρ.sp n=x:=by
 unfold Rs.has at h;rcases ρ.parts n with hout|⟨m,x,rfl,hm,hx⟩
 · rw[ρ.Im hout] at h;simp[Sp.zero] at h
 refine⟨m,x,rfl,hx,?_⟩;rw[ρ.La hx] at h ⊢;by_cases e:x.kind=0
 · rw[if_pos e] at h;simp[Sp.zero] at h
 exact⟨e,if_neg e⟩
def Rs.MR (ρ:Rs) (n d:Int):Rs:=match ρ.spots[(n-1).toNat]? with
 | some x=>ρ.setAt (n-1).toNat { x with own:=x.own+d }
 | none=>ρ
theorem Rs.J1 {ρ:Rs} {m:Nat} {x:Sp} (hx:ρ.spots[m]?=some x) (d:Int):ρ.MR ((m:Int)+1) d=ρ.setAt m { x with own:=x.own+d }:=by
 unfold Rs.MR;rw[show((m:Int)+1-1).toNat=m by omega,hx]
def Rs.DE (ρ:Rs) (n:Int):Int:=if ρ.has n=false then 7 else if 1073741824≤(ρ.sp n).own+(ρ.sp n).sides then 4 else 0
theorem Ss (h:RAt w b F ρ) (n:Int):Calls Tryz.prog 155 #[.pointer (some ⟨b,0,none⟩),.int .i64 n] w fun e w'=>e=.returned (.int .i64 (ρ.DE n))∧RMoved w w' b F (if ρ.DE n=0 then ρ.MR n 1 else ρ):=by
 have HN:=Lib.hid (Cd h);have hh:=FX h n;cases hb:ρ.has n with
 | false =>
  have he:ρ.DE n=7:=by unfold Rs.DE;rw[if_pos hb]
  rw[hb] at hh;rw[he,if_neg (by omega)];have HH:=Lib.hid hh;have R:=Lib.hid (RMoved.same h (Ch.refl _ _));clear hh hb he h;go_enter Tryz.func155,Tryz.ntmps155;go_wp2_with fail;refine HN.out.mono ?_;rintro e w1 ⟨rfl,rfl⟩;go_wp2_with fail;refine HH.out.mono ?_;rintro e w1 ⟨rfl,rfl⟩;go_wp2;go_ret;exact⟨rfl,R.out⟩
 | true =>
  rw[hb] at hh;have HH:=Lib.hid hh;have hc:=RJ h n;obtain⟨m,x,rfl,hx,hk,hsp⟩:=Rs.CF hb;have hnums:=h.1.nums x (List.mem_of_getElem? hx);have he:ρ.DE ((m:Int)+1)=if 1073741824≤x.own+x.sides then 4 else 0:=by unfold Rs.DE;rw[hb,hsp];rfl
  rw[hsp] at hc;obtain⟨c,hcc⟩:∃c,c=x.own+x.sides:=⟨_,rfl⟩
  rw[←hcc] at hc he;have HC:=Lib.hid hc;by_cases hbig:1073741824≤c
  · have d1:decide ((1073741824:Int)≤c)=true:=decide_eq_true hbig
    rw[if_pos hbig] at he;rw[he,if_neg (by omega)];have HR:=Lib.hid h;clear hh hb he hc hcc h hx hk hsp hnums hbig;go_enter Tryz.func155,Tryz.ntmps155;go_wp2_with fail;refine HN.out.mono ?_;rintro e w1 ⟨rfl,rfl⟩;go_wp2_with fail;refine HH.out.mono ?_;rintro e w1 ⟨rfl,rfl⟩;go_wp2_with fail;refine HC.out.mono ?_;rintro e w1 ⟨rfl,a1⟩;have A1:=Lib.hid a1;clear a1;go_wp2;go_ret;exact⟨rfl,RMoved.same HR.out A1.out⟩
  have d1:decide ((1073741824:Int)≤c)=false:=decide_eq_false hbig;rw[if_neg hbig] at he;rw[he,if_pos rfl,Rs.J1 hx];have HR:=(hIq h (aIq hx (aIq hnums (by omega:x.own+x.sides<1073741824))))
  have hl:=h.1.len;have hs:=h.1.space;clear hh hb he hc hcc h hk hsp hnums hbig;go_enter Tryz.func155,Tryz.ntmps155;go_wp2_with fail;refine HN.out.mono ?_;rintro e w1 ⟨rfl,rfl⟩;go_wp2_with fail;refine HH.out.mono ?_;rintro e w1 ⟨rfl,rfl⟩;go_wp2_with fail;refine HC.out.mono ?_;rintro e w1 ⟨rfl,a1⟩;have h1:=HR.out.1.adds a1;obtain⟨g,cap,cur,vf,hb,hg,q1,q2,q3,q4,q5,hok,hat,hex,fg,gb,hfit⟩:=Dy h1 hx;have hn:=HR.out.2.2.1;have hlt:=HR.out.2.2.2;obtain⟨r1,ch1,hb1⟩:=h1.Kd hx hb 37 (.int .i64 (x.own+1)) (by omega) (Sp.Ig hok _) (y := { x with own:=x.own+1 }) ⟨⟨hok.key,hok.addr,hok.val⟩,⟨by show 0≤x.own+1;omega,by show x.own+1≤_;omega⟩,hn.2.2⟩ ⟨rfl,rfl⟩;have R:=(hIq r1 (aIq ch1 a1))
  have c2:=AH hb (i:=2) rfl;have co:=AH hg (hat 37 _ (by omega) (Sp.EG hok));have fo:=Ai hg (m*39+37);have lg:=Ad hg;obtain⟨ow,how⟩:∃o,o=x.own:=⟨_,rfl⟩
  have hoo:IntKind.i64.wrap (ow+1)=ow+1:=IntWalk.i64_in _ (by omega);rw[←how] at co R;have HOW:=Lib.hid how;obtain⟨L,hL⟩:∃L,L=ρ.spots.length:=⟨_,rfl⟩
  rw[←hL] at c2 q5 hl;have hml:m≤65535:=by omega
  clear hb hg q1 q2 q3 q4 hok hat hex fg gb hfit h1 r1 ch1 hb1 a1 how hL hn hlt hx;go_wp2;go_ret;have how':=HOW.out;subst how';refine⟨rfl,RMoved.from R.out.2.2 ⟨F,R.out.1,R.out.2.1,fun k hk=>.inl hk⟩⟩
end
def Sp.held (x:Sp):Sp := { x with own:=1 }
def Rs.take (ρ:Rs) (x:Sp):Int×Rs:=match ρ.free.getLast? with
 | some n=>(n, { ρ with spots:=ρ.spots.set (n-1) x.held,free:=ρ.free.dropLast })
 | none=>((ρ.spots.length:Int)+1, { ρ with spots:=ρ.spots ++ [x.held] })
theorem DQ {P:Program} {C:Code} {Q:Exit→Act→World→Prop} {a:Act} {w:World} (h:∀w0,w0=w→C.wp P Q a w0):C.wp P Q a w:=h w rfl
section
variable {w w' : World} {b : Nat} {F : Nat→Prop} {ρ : Rs}
theorem Nu (h:RAt w b F ρ) (x:Sp) (hx:x.Ok) (hsd:0≤x.sides∧x.sides≤2147483648) (hbv:Bytes w x.addr x.value) (hnb:∀k,x.addr.ownBlock=some k→¬F k∧k<w.heap.size) {fr:List Nat} {k:Nat} (hf:ρ.free=fr ++ [k+1]) :
 Calls Tryz.prog 300 #[.pointer (some ⟨b,0,none⟩),.agg x.cells] w fun e w'=>e=.returned (.int .i64 ((k:Int)+1))∧RMoved w w' b (fun j=>F j∨x.addr.ownBlock=some j) { ρ with spots:=ρ.spots.set k x.held,free:=fr }:=by
 have hfine:=h.1;obtain⟨h0,vs,vf,h1,h2,h3,h4,h5,h6,h7,h8⟩:=h;have hk1:=hfine.free (k+1) (by rw[hf];simp);have hkl:k<ρ.spots.length:=by omega
 have hfl:ρ.free.length=fr.length+1:=by rw[hf];simp
 have hll:=hfine.len;have hsp:=hfine.space;have hffl:=hfine.flen;obtain⟨g,cap,cur,rfl,hg,hc1,hc2,hc3,hc4⟩:=Bq h2 (by omega);obtain⟨fg,gb⟩:=h6 g rfl;rw[hfl] at h3;obtain⟨f,fcap,curf,rfl,hF,q1,q2,q3,q4⟩:=Bq h3 (by omega);obtain⟨ff,fb,fgn⟩:=h7 f rfl;have hgf:g≠f:=fun e=>fgn (by rw[e];rfl)
 have hfc:w.cell? ⟨f,fr.length,none⟩=some (.int .i64 ((k:Int)+1)):=AH hF (Dx q4 (by rw[hf];simp[ints]));have hlg:=Ad hg;have hlf:=Ad hF;have hlb:=Ad h1
 have hsz:∀a∈ρ.spots.map Sp.cells,a.size=39:=fun a ha=>by
  obtain⟨z,hz,rfl⟩:=List.mem_map.1 ha;exact Sp.AY (h0.nums z hz).1
 have hxo:x.held.Ok:=⟨hx.key,hx.addr,hx.val⟩
 obtain⟨X0,hX0⟩:∃X,X=x.cells:=⟨_,rfl⟩
 obtain⟨X,hX⟩:∃X,X=x.held.cells:=⟨_,rfl⟩
 have hXe:X0.setIfInBounds 37 (.int .i64 1)=X:=by rw[hX0,hX];exact Sp.Ig hx 1
 have hXs:X.size=39∧∀v∈X.toList,v.oneCell'=true:=by rw[hX];exact⟨Sp.AY hxo,Sp.cells_one hxo⟩
 have hX0s:X0.size=39:=by rw[hX0];exact Sp.AY hx
 have hle:(k+1)*39≤ρ.spots.length*39:=Nat.mul_le_mul_right _ hkl;have hkc:ρ.spots.length*39≤cur.size:=by rw[hc3];exact Nat.mul_le_mul_right _ hc1
 have hkk:k*39+39≤ρ.spots.length*39:=by omega
 obtain⟨new,HN⟩:∃new,Hid ((splice cur.toList (k*39) X.toList).toArray=new):=⟨_,rfl⟩
 have HT:Hid (new.toList.take (ρ.spots.length*39)=Bz ((ρ.spots.set k x.held).map Sp.cells)):=by
  show _=_
  rw[←HN.out];have e1:=D8 hc4 hkc (off:=k*39) (v:=X.toList) (by rw[Array.length_toList,hXs.1];omega);have e2:=IW hsz (i:=k) (by simpa using hkl) hXs.1;rw[e2,hX, ←List.map_set] at e1;rw[hX];exact e1
 have HS:Hid (new.size=cur.size):=by
  show _=_
  rw[←HN.out];have:=Ce cur.toList (k*39) X.toList (by rw[Array.length_toList,hXs.1,Array.length_toList];omega);simpa using this
 have HFit:Hid (k*39+X.size≤cur.size):=by show _≤_;rw[hXs.1];omega
 have HQ:Hid (curf.toList.take (fr.length*1)=ints fr):=by
  show _=_
  have:=congrArg (List.take (fr.length*1)) q4;rw[List.take_take,Nat.min_eq_left (by omega),hf] at this;rw[this];simp[ints]
 have c2:=AH h1 (i:=2) rfl;have c3:=AH h1 (i:=3) rfl;have f3:=Ai h1 3;have HX:=(hIq hXs (aIq hX0s hXe))
 have HFR:=Lib.hid hf;have E1:=Lib.hid h1;have E2:=Lib.hid hg;have EF:=Lib.hid hF;have HR:=(hIq h0 (aIq h4 (aIq h5 (aIq h6 (aIq h7 h8)))))
 have HB:=(hIq hbv (aIq hnb (aIq hxo hsd)))
 have HC:=(hIq hc1 (aIq hc2 (aIq hc3 (aIq q1 (aIq q2 (aIq q3 (aIq fg (aIq ff (aIq hfl hX)))))))))
 have hbw:b≠w.heap.size:=by omega
 have hfw:f≠w.heap.size:=by omega
 have hgw:g≠w.heap.size:=by omega
 have hml:k≤65535:=by omega
 have hfr:fr.length≤65535:=by omega
 have hfc9:fr.length≤fcap:=by omega
 obtain⟨L,hL⟩:∃L,L=ρ.spots.length:=⟨_,rfl⟩
 rw[←hL] at c2 hkl;have HLL:=Lib.hid hL;rw[←hX0];have hwk:IntKind.i64.wrap (k:Int)=k:=IntWalk.i64_in _ (by omega);have hwf:IntKind.i64.wrap (fr.length:Int)=fr.length:=IntWalk.i64_in _ (by omega);have hr0:(w.alloc (.cells X0 262)).heap[w.heap.size]?=some (.cells X0 262 (0,0)):=heap_alloc_new _ _;have hfr0:=Ai hr0 37;have hc37:=AH hr0 (i:=37) (v:=.int .i64 x.own) (by rw[hX0];exact Sp.EG hx);have hlr0:=Ad hr0;clear hfine h0 h1 h2 h3 h4 h5 h6 h7 h8 hg hF hk1 hfl hll hsp hffl hc1 hc2 hc3 hc4 q1 q2 q3 q4 hsz hxo hX hXe hXs hX0s hle hkc hkk hbv hnb hsd hx hX0 hf hL hr0;go_enter Tryz.func300,Tryz.ntmps300;go_upto_region 2 with fail;refine DQ (fun w1 hw1=>?_);have aw:AN w w1:=by rw[hw1];exact(Ch.refl _ w).alloc _
 have e1:=aw.row E1.out id;have e2:=aw.row E2.out id;have eF:=aw.row EF.out id
 have eX:w1.heap[w.heap.size]?=some (.cells X 262 (0,0)):=by
  rw[hw1, ←HX.out.2.2];exact heap_alloc_new w _
 have hs1:w1.heap.size=w.heap.size+1:=by rw[hw1];simp
 obtain⟨B,hB⟩:∃B,B=w.heap.size:=⟨_,rfl⟩
 rw[←hB] at eX hbw hfw hgw hs1 hlg hlf hlb ⊢;have hfc1:=aw.cell hfc id;clear c2 c3 f3 hfr0 hlr0 hfc hw1 hc37;have c2:=AH e1 (i:=2) rfl;have c3:=AH e1 (i:=3) rfl;have f3:=Ai e1 3;have l1:=Ad e1;have W1:=(hIq aw (aIq e1 (aIq e2 (aIq eF (aIq eX (aIq hs1 hB))))))
 clear aw e1 e2 eF eX hs1 hB;go_wp2;go_quiet (fail);obtain⟨w2,hw2⟩:∃w2,w2=w1.drewN nq:=⟨_,rfl⟩
 rw[←hw2];have a2:AN w1 w2:=by rw[hw2];exact(Ch.refl _ _).drewN _
 clear c2 c3 f3 l1 hfc1 hw2;have W2:=(hIq (W1.out.1.trans a2 (fun _=>fEq)) (aIq (a2.row W1.out.2.1 id) (aIq (a2.row W1.out.2.2.1 id) (aIq (a2.row W1.out.2.2.2.1 id) (aIq (a2.row W1.out.2.2.2.2.1 id) (W1.out.2.2.2.2.2.2))))))
 clear a2 W1;have c2:=AH W2.out.2.1 (i:=2) rfl;have c3:=AH W2.out.2.1 (i:=3) rfl;have f3:=Ai W2.out.2.1 3;have l1:=Ad W2.out.2.1;go_wp2;refine AP (fun w0=>w0=(w2).drew) 12 [(0,false),(1,false),(2,false),(3,false),(4,false),(5,false),(6,false),(7,false),(8,false),(9,false),(10,false),(11,false)] (by kernel_rfl) (by kernel_rfl) rfl ?_
 iterate 12 refine plan_look rfl rfl (fun w0 hS=>(by subst hS;go_simp;try rfl)) ?_
 refine AZ ?_;simp only[List.drop_succ_cons,List.drop_zero,Act.put,List.setIfInBounds_toArray,List.set_cons_succ,List.set_cons_zero];go_wp2;refine NoPanic.normal ?_;obtain⟨w3,hw3⟩:∃w3,w3=(w2.setCell ⟨b,3,none⟩ (.slice (some ⟨f,0,none⟩) fr.length fcap)).drew:=⟨_,rfl⟩
 rw[←hw3];have hc3:Ch (fun j=>j=b) w2 w3:=by rw[hw3];exact((Ch.refl (fun j=>j=b) w2).setCell (p:=⟨b,3,none⟩) (.inl rfl) _).drew
 have r3b:w3.heap[b]?=some (.cells #[.bool true,.int .i64 (ρ.space:Nat),.slice (some ⟨g,0,none⟩) ρ.spots.length cap,.slice (some ⟨f,0,none⟩) fr.length fcap] 319 (0,0)):=by rw[hw3];exact AM (AV W2.out.2.1 3 _)
 have r3g:=hc3.row W2.out.2.2.1 gb;have r3f:=hc3.row W2.out.2.2.2.1 fb;have r3x:=hc3.row W2.out.2.2.2.2.1 (Ne.symm hbw);have W3:=(hIq ((W2.out.1.mono (G:=fun j=>j=b) (fun _ _ h=>h.elim)).trans hc3 (fun j hj=>.inl hj)) (aIq r3b (aIq r3g (aIq r3f r3x))))
 clear c2 c3 f3 l1 hw3 hc3 r3b r3g r3f r3x W2;have c2:=AH W3.out.2.1 (i:=2) rfl;rw[←HLL.out] at c2;go_wp2;refine AP (fun w0=>w0=w3.drew) 7 [(0,false),(1,false),(2,false),(3,false),(4,false),(5,false),(6,false)] (by kernel_rfl) (by kernel_rfl) rfl ?_
 iterate 6 refine plan_look rfl rfl (fun w0 hS=>(by subst hS;go_simp;try rfl)) ?_
 simp only[Act.put,nAq,nBq,nCq];refine Aa (cur:=X) (t:=262) (fr:=(0,0)) rfl rfl 262 (.tmp 3) rfl B 0 39 rfl (fun w0 hS=>by subst hS;exact AM W3.out.2.2.2.2) Tryz.underlying262 rfl Cf (by rw[HX.out.1.1];omega) X (by have:=HX.out.1.1;simp[←this]) ?_;refine AZ ?_;simp only[List.drop_succ_cons,List.drop_zero,Act.put,List.setIfInBounds_toArray,List.set_cons_succ,List.set_cons_zero]
 go_wp2_with (first
  | fail
  | ((with_reducible show zOq (.store 262 _ _));refine AI rfl 262 _ _ rfl g (k*39) X rfl rfl (AM W3.out.2.2.1) (by rw[Cf,HX.out.1.1]) HFit.out HX.out.1.2 new HN.out ?_))
 refine NoPanic.normal ?_;go_wp2;go_ret;have hCh:Ch (fun j=>j=b∨j=g) w (w3.drew.setRow g new):=((W3.out.1.mono (G:=fun j=>j=b∨j=g) (fun _ _ h=>.inl h)).drew).setRow (.inl (.inr rfl)) new;have hb5:=row_setRow (AM W3.out.2.1) (Ne.symm gb) new;have hg5:=AK (AM W3.out.2.2.1) new;have hf5:=row_setRow (AM W3.out.2.2.2.1) (Ne.symm hgf) new;obtain⟨z0,z4,z5,z6,z7,z8⟩:=HR.out;obtain⟨y1,y2,y3,y4⟩:=HB.out;obtain⟨x1,x2,x3,x4,x5,x6,x7,x8,x9,x10⟩:=HC.out;refine⟨rfl,fun j=>F j∨x.addr.ownBlock=some j,⟨⟨z0.space,by show(ρ.spots.set k x.held).length≤_;rw[List.length_set];exact z0.len,fun n hn=>?_,?_,fun z hz=>?_⟩,_,_,hb5,?_,?_,fun z hz=>?_,.inl z5,fun j hj=>⟨.inl (z6 j hj).1,(z6 j hj).2⟩,fun j hj=>?_,fun j hj=>?_⟩,hCh.mono ?_,fun j hj=>.inl hj⟩
 · show 1≤n∧n≤(ρ.spots.set k x.held).length
   rw[List.length_set];exact z0.free n (by rw[HFR.out];exact List.mem_append_left _ hn)
 · show fr.length≤(ρ.spots.set k x.held).length
   rw[List.length_set];have:=z0.flen;omega
 · rcases List.mem_or_eq_of_mem_set hz with hz|rfl
   · exact z0.nums z hz
   exact⟨y3,⟨by show(0:Int)≤1;decide,by show(1:Int)≤2147483648;decide⟩,y4⟩
 · show World.ownsRow _ 0 _ 39 _ (ρ.spots.set k x.held).length _
   rw[List.length_set];exact B4 hg5 x1 x2 (by rw[HS.out];exact x3) HT.out
 · exact B4 hf5 (Nat.le_of_succ_le x4) x5 x6 HQ.out
 · rcases List.mem_or_eq_of_mem_set hz with hz|rfl
   · obtain⟨u1,u2⟩:=z4 z hz
     refine⟨u1.Ae hCh (fun j hj e=>?_),fun j hj=>⟨.inl (u2 j hj).1,(u2 j hj).2.1,?_,(u2 j hj).2.2.2⟩⟩
     · rcases e with rfl|rfl
       · exact(u2 _ hj).2.1 rfl
       exact(u2 _ hj).2.2.1 rfl
     exact(u2 j hj).2.2.1
   refine⟨y1.Ae hCh (fun j hj e=>?_),fun j hj=>⟨.inr hj,fun e=>(y2 j hj).1 (e▸z5),fun e=>?_,fun e=>?_⟩⟩
   · rcases e with rfl|rfl
     · exact(y2 _ hj).1 z5
     exact(y2 _ hj).1 x7
   · simp only[Value.ownBlock,Option.some.injEq] at e
     exact(y2 j hj).1 (e▸x7)
   simp only[Value.ownBlock,Option.some.injEq] at e;exact(y2 j hj).1 (e▸x8)
 · obtain⟨v1,v2,v3⟩:=z7 j hj
   exact⟨.inl v1,v2,v3⟩
 · have hs:=hCh.size
   rcases hj with hj|hj
   · exact Nat.lt_of_lt_of_le (z8 j hj) hs
   exact Nat.lt_of_lt_of_le (y2 j hj).2 hs
 rintro j hj (rfl|rfl)
 · exact .inl z5
 exact .inl x7
theorem Q6:∃i z,Tryz.prog.info? 262=some i∧i.zero=some z∧i.size=39∧i.bytes≤4096∧z.cells.size=39:=by
 obtain⟨i,h1,h2⟩:=Option.map_eq_some_iff.1 (by kernel_rfl:(Tryz.prog.info? 262).map (fun i=>(i.size,decide (i.bytes≤4096),i.zero.map (fun z=>z.cells.size)))=some (39,true,some 39));simp only[Prod.mk.injEq,Option.map_eq_some_iff,decide_eq_true_eq] at h2;obtain⟨h2,h3,z,h4,h5⟩:=h2;exact⟨i,z,h1,h4,h2,h3,h5⟩
theorem Ol (h:RAt w b F ρ) (x:Sp) (hx:x.Ok) (hsd:0≤x.sides∧x.sides≤2147483648) (hbv:Bytes w x.addr x.value) (hnb:∀k,x.addr.ownBlock=some k→¬F k∧k<w.heap.size) (hf:ρ.free = []) (hroom:ρ.spots.length<ρ.space) :
 Calls Tryz.prog 300 #[.pointer (some ⟨b,0,none⟩),.agg x.cells] w fun e w'=>e=.returned (.int .i64 ((ρ.spots.length:Int)+1))∧RMoved w w' b (fun j=>F j∨x.addr.ownBlock=some j) { ρ with spots:=ρ.spots ++ [x.held] }:=by
 have hfine:=h.1;obtain⟨h0,vs,vf,h1,h2,h3,h4,h5,h6,h7,h8⟩:=h;have hll:=hfine.len;have hsp:=hfine.space;obtain⟨ao,cap,rfl⟩:=Am h2;have hfl:ρ.free.length=0:=by rw[hf];rfl
 have h3':=h3;rw[hfl] at h3';obtain⟨af,fcap,rfl⟩:=Am h3';have hlb:=Ad h1;have hxo:x.held.Ok:=⟨hx.key,hx.addr,hx.val⟩
 obtain⟨X0,hX0⟩:∃X,X=x.cells:=⟨_,rfl⟩
 obtain⟨X,hX⟩:∃X,X=x.held.cells:=⟨_,rfl⟩
 have hXe:X0.setIfInBounds 37 (.int .i64 1)=X:=by rw[hX0,hX];exact Sp.Ig hx 1
 have hXs:X.size=39∧∀v∈X.toList,v.oneCell'=true:=by rw[hX];exact⟨Sp.AY hxo,Sp.cells_one hxo⟩
 obtain⟨i0,z0,p1,p2,p3,p4,p5⟩:=Q6;have HI:=(hIq p1 (aIq p2 (aIq p3 (aIq p4 p5))))
 have HBY:Hid ((ρ.spots.length+1)*i0.bytes≤140737488355328):=by
  show _≤_
  have:(ρ.spots.length+1)*i0.bytes≤65537*4096:=Nat.mul_le_mul (by omega) p4;omega
 have HSM:Hid (i0.size≤65536∧0<i0.size):=by show _∧_;rw[p3];omega
 have HCS:Hid ((Value.agg X).cells.size=i0.size):=by show _=_;rw[p3];exact hXs.1
 have HFL:Hid (Bz (ρ.spots.map Sp.cells)++X.toList=Bz ((ρ.spots ++ [x.held]).map Sp.cells)):=by show _=_;rw[List.map_append,EP,List.map_cons,List.map_nil,I1,hX]
 have HLN:Hid (X.toList.length=1*39):=by show _=_;rw[Array.length_toList,hXs.1]
 have c3:=AH h1 (i:=3) rfl;have HX:=(hIq hXs hXe)
 have E1:=Lib.hid h1;have HO:=(hIq h2 h3)
 have HR:=(hIq h0 (aIq h4 (aIq h5 (aIq h6 (aIq h7 h8)))))
 have HB:=(hIq hbv (aIq hnb (aIq hxo hsd)))
 have HFR:=(hIq hf hroom)
 have hbw:b≠w.heap.size:=by omega
 obtain⟨L,hL⟩:∃L,L=ρ.spots.length:=⟨_,rfl⟩
 have HLL:=Lib.hid hL;have hL6:L≤65536:=by omega
 rw[←hX0];have hr0:(w.alloc (.cells X0 262)).heap[w.heap.size]?=some (.cells X0 262 (0,0)):=heap_alloc_new _ _;have hfr0:=Ai hr0 37;have hc37:=AH hr0 (i:=37) (v:=.int .i64 x.own) (by rw[hX0];exact Sp.EG hx);have hlr0:=Ad hr0;rw[←hL];rw[←hL] at E1 HO HBY HR;clear hfine h0 h1 h2 h3 h3' h4 h5 h6 h7 h8 hfl hll hsp hxo hX hXe hXs p1 p2 p3 p4 p5 hbv hnb hsd hx hX0 hf hroom hL hr0;go_enter Tryz.func300,Tryz.ntmps300;go_upto_region 2 with fail;refine DQ (fun w1 hw1=>?_);have aw:AN w w1:=by rw[hw1];exact(Ch.refl _ w).alloc _
 have e1:=aw.row E1.out id
 have eX:w1.heap[w.heap.size]?=some (.cells X 262 (0,0)):=by
  rw[hw1, ←HX.out.2];exact heap_alloc_new w _
 have hs1:w1.heap.size=w.heap.size+1:=by rw[hw1];simp
 obtain⟨B,hB⟩:∃B,B=w.heap.size:=⟨_,rfl⟩
 rw[←hB] at eX hbw hs1 hlb ⊢;clear c3 hfr0 hlr0 hw1 hc37;have c2:=AH e1 (i:=2) rfl;have c3:=AH e1 (i:=3) rfl;have l1:=Ad e1;have W1:=(hIq aw (aIq e1 (aIq eX (aIq hs1 hB))))
 clear aw e1 eX hs1 hB;go_wp2;refine AP (fun w'=>w'.cell? ⟨b,2,none⟩=some (.slice ao L cap)∧w'.heap[B]?=some (.cells X 262 (0,0))) 8 [(0,false),(1,false),(2,false),(3,false),(4,false),(5,false),(6,true),(7,true)] (by kernel_rfl) (by kernel_rfl) ?_ ?_
 · exact⟨AH (AM W1.out.2.1) (i:=2) rfl,AM W1.out.2.2.1⟩
 iterate 5 refine plan_look rfl rfl (fun w0 hS=>(by obtain⟨s1,s2⟩:=hS;clear s2;go_simp;try rfl)) ?_
 simp only[Act.put,nAq,nBq,nCq];refine Aa (cur:=X) (t:=262) (fr:=(0,0)) rfl rfl 262 (.tmp 3) rfl B 0 39 rfl (fun w0 hS=>hS.2) Tryz.underlying262 rfl Cf (by rw[HX.out.1.1];omega) X (by have:=HX.out.1.1;simp[←this]) ?_;simp only[Act.put,nAq,nBq,nCq];refine AW rfl ?_;refine Bo rfl 317 (.tmp 53) rfl 262 i0 z0 (.agg X) rfl Tryz.underlying317 HI.out.1 HI.out.2.1 HSM.out.1 HSM.out.2 HCS.out ?_;refine wpList_nil ?_;change _∧_;refine⟨⟨AH (AQ (AM W1.out.2.1) _) (i:=2) rfl,AQ (AM W1.out.2.2.1) _⟩,?_⟩;simp only[Act.put,nAq,nBq,nCq];refine AW rfl ?_;refine BI rfl (.tmp 52) (.tmp 54) 317 rfl 262 i0 z0 39 i0.bytes Tryz.underlying317 HI.out.1 HI.out.2.1 HI.out.2.2.1 rfl HI.out.2.2.2.2 (by decide) (.slice ao L cap) L (Bz (ρ.spots.map Sp.cells)) rfl ((W1.out.1.trans ((Ch.refl (fun _=>False) w1).drew.alloc _) (fun _=>fEq)).owns HO.out.1 (fun _ _ h=>h)) _ 1 1 X.toList rfl HLN.out (GI (cs:=X) (t:=262) (fr:=(0,0)) (BG _ _ _ (by simp))) HX.out.1.2 (by unfold maxLen;omega) HBY.out ?_;intro v0 w4 own' grow' ob';obtain⟨ro,rc,rfl⟩:=Am own';have CH:Ch (fun j=>(Value.slice ao L cap).ownBlock=some j) w w4:=((W1.out.1.mono (G:=fun j=>(Value.slice ao L cap).ownBlock=some j) (fun _ _ h=>h.elim)).drew.alloc _).grown grow' (fun j hj=>.inl hj);have hnb':¬(Value.slice ao L cap).ownBlock=some b:=fun e=>(HR.out.2.2.2.1 b e).2 rfl
 have hnB':¬(Value.slice ao L cap).ownBlock=some B:=fun e=>by
  have h1:=(HR.out.2.2.2.1 B e).1;have h2:=HR.out.2.2.2.2.2 B h1;have h3:=W1.out.2.2.2.2;omega
 have r4b:=CH.row E1.out hnb';have r4B:w4.heap[B]?=some (.cells X 262 (0,0)):=(grow'.block B (by have h1:=W1.out.2.2.2.1;rw[World.size_alloc];have h2:w1.drew.heap.size=w1.heap.size:=rfl;have h3:=W1.out.2.2.2.2;omega) (fun e=>hnB' e.symm)).trans (AQ (AM W1.out.2.2.1) _);have hsz4:w.heap.size+1≤w4.heap.size:=by have h1:=grow'.size;rw[World.size_alloc] at h1;have h2:w1.drew.heap.size=w1.heap.size:=rfl;have:=W1.out.2.2.2.1;have:=W1.out.2.2.2.2;omega
 have OB:Hid ((Value.slice ro (L+1) rc).ownBlock=(Value.slice ao L cap).ownBlock∨∀j,(Value.slice ro (L+1) rc).ownBlock=some j→w.heap.size≤j):=Lib.hid (ob'.imp id (fun h j hj=>by have h1:=h j hj;rw[World.size_alloc] at h1;have h2:w1.drew.heap.size=w1.heap.size:=rfl;have:=W1.out.2.2.2.1;have:=W1.out.2.2.2.2;omega));have H4:=(hIq own' (aIq CH (aIq r4b (aIq hsz4 (aIq hnb' hnB')))))
 clear c2 c3 l1;have c2:=AH r4b (i:=2) rfl;have f2:=Ai r4b 2;have l4:=Ad r4b;refine wpList_nil ?_;change _∧_;refine⟨⟨c2,r4B⟩,?_⟩;clear own' CH hnb' hnB' r4b r4B hsz4 grow' ob';refine AZ ?_;simp only[List.drop_succ_cons,List.drop_zero,Act.put,List.setIfInBounds_toArray,List.set_cons_succ,List.set_cons_zero];go_wp2;refine NoPanic.normal ?_;go_wp2;go_ret;obtain⟨own',CH,r4b,hsz4,hnb',hnB'⟩:=H4.out;obtain⟨z0,z4,z5,z6,z7,z8⟩:=HR.out;obtain⟨y1,y2,y3,y4⟩:=HB.out;have hb5:=AV r4b 2 (.slice ro (L+1) rc)
 have hne:∀j,(Value.slice ro (L+1) rc).ownBlock=some j→j≠b∧(F j∨w.heap.size≤j)∧(Value.slice af 0 fcap).ownBlock≠some j∧x.addr.ownBlock≠some j:=fun j hj=>by
  rcases OB.out with e|e
  · rw[e] at hj
    exact⟨(z6 j hj).2,.inl (z6 j hj).1,fun h=>(z7 j h).2.2 hj,fun h=>(y2 j h).1 (z6 j hj).1⟩
  have h1:=e j hj;have hbs:=z8 b z5;exact⟨by omega,.inr h1,fun h=>by have:=z8 j (z7 j h).1;omega,fun h=>by have:=(y2 j h).2;omega⟩
 have hC5:Ch (fun j=>j=b∨(Value.slice ao L cap).ownBlock=some j) w (w4.setCell ⟨b,2,none⟩ (.slice ro (L+1) rc)):=(CH.mono (G:=fun j=>j=b∨(Value.slice ao L cap).ownBlock=some j) (fun _ _ h=>.inr h)).setCell (p:=⟨b,2,none⟩) (.inl (.inl rfl)) _;have hs5:(w4.setCell ⟨b,2,none⟩ (.slice ro (L+1) rc)).heap.size=w4.heap.size:=by simp
 refine⟨rfl,fun j=>(F j∨x.addr.ownBlock=some j)∨(w.heap.size≤j∧j<w4.heap.size),⟨⟨z0.space,by show(ρ.spots ++ [x.held]).length≤ρ.space;rw[List.length_append,List.length_singleton];have:=HFR.out.2;omega,fun n hn=>?_,?_,fun z hz=>?_⟩,.slice ro (L+1) rc,.slice af 0 fcap,hb5,?_,?_,fun z hz=>?_,.inl (.inl z5),fun j hj=>?_,fun j hj=>?_,fun j hj=>?_⟩,hC5.mono ?_,fun j hj=>hj.imp id (fun h=>h.1)⟩
 · exfalso
   rw[show({ ρ with spots:=ρ.spots ++ [x.held] }:Rs).free=ρ.free from rfl,HFR.out.1] at hn;cases hn
 · show ρ.free.length≤_
   rw[HFR.out.1];exact Nat.zero_le _
 · rcases List.mem_append.1 hz with hz|hz
   · exact z0.nums z hz
   rw[List.mem_singleton] at hz;subst hz;exact⟨y3,⟨by show(0:Int)≤1;decide,by show(1:Int)≤2147483648;decide⟩,y4⟩
 · show World.ownsRow _ 0 _ 39 _ (ρ.spots ++ [x.held]).length (Bz ((ρ.spots ++ [x.held]).map Sp.cells))
   rw[List.length_append,List.length_singleton, ←HLL.out, ←HFL.out];exact((Ch.refl (fun j=>j=b) w4).setCell (p:=⟨b,2,none⟩) (.inl rfl) _).owns own' (fun j hj e=>(hne j hj).1 e)
 · exact hC5.owns HO.out.2 (fun j hj e=>by
    have hj':(Value.slice af 0 fcap).ownBlock=some j:=hj;rcases e with rfl|e
    · exact(z7 _ hj').2.1 rfl
    exact(z7 _ hj').2.2 e)
 · rcases List.mem_append.1 hz with hz|hz
   · obtain⟨u1,u2⟩:=z4 z hz
     refine⟨u1.Ae hC5 (fun j hj e=>?_),fun j hj=>⟨.inl (.inl (u2 j hj).1),(u2 j hj).2.1,fun e=>?_,(u2 j hj).2.2.2⟩⟩
     · rcases e with rfl|e
       · exact(u2 _ hj).2.1 rfl
       exact(u2 _ hj).2.2.1 e
     rcases OB.out with e' | e'
     · rw[e'] at e;exact(u2 j hj).2.2.1 e
     have:=e' j e;have:=z8 j (u2 j hj).1;omega
   rw[List.mem_singleton] at hz;subst hz;refine⟨y1.Ae hC5 (fun j hj e=>?_),fun j hj=>⟨.inl (.inr hj),fun e=>(y2 j hj).1 (e▸z5),fun e=>(hne j e).2.2.2 hj,fun e=>(y2 j hj).1 (z7 j e).1⟩⟩;rcases e with rfl|e
   · exact(y2 _ hj).1 z5
   exact(y2 _ hj).1 (z6 _ e).1
 · obtain⟨q1,q2,q3,q4⟩:=hne j hj
   refine⟨?_,q1⟩;rcases q2 with q2|q2
   · exact .inl (.inl q2)
   exact .inr ⟨q2,(own'.lt j hj).2⟩
 · obtain⟨v1,v2,v3⟩:=z7 j hj
   exact⟨.inl (.inl v1),v2,fun e=>(hne j e).2.2.1 hj⟩
 · rw[hs5]
   rcases hj with(hj|hj)|hj
   · have:=z8 j hj;omega
   · have:=(y2 j hj).2;omega
   exact hj.2
 rintro j hj (rfl|e)
 · exact .inl z5
 exact .inl (z6 j e).1
theorem N0 (h:RAt w b F ρ) (x:Sp) (hx:x.Ok) (hsd:0≤x.sides∧x.sides≤2147483648) (hbv:Bytes w x.addr x.value) (hnb:∀k,x.addr.ownBlock=some k→¬F k∧k<w.heap.size) (hfull:ρ.FG=false) :
 Calls Tryz.prog 300 #[.pointer (some ⟨b,0,none⟩),.agg x.cells] w fun e w'=>e=.returned (.int .i64 (ρ.take x).1)∧RMoved w w' b (fun j=>F j∨x.addr.ownBlock=some j) (ρ.take x).2:=by
 unfold Rs.take;cases hg:ρ.free.getLast? with
 | none =>
  have hf:ρ.free = []:=by simpa using hg
  have hr:ρ.spots.length<ρ.space:=by
   unfold Rs.FG at hfull;rw[hf] at hfull;simpa using hfull
  exact Ol h x hx hsd hbv hnb hf hr
 | some n =>
  have hn:ρ.free=ρ.free.dropLast ++ [n]:=by
   obtain⟨ys,hys⟩:=List.getLast?_eq_some_iff.1 hg;rw[hys];simp
  obtain⟨h1,_⟩:=h.1.free n (by rw[hn];simp);obtain⟨k,rfl⟩:∃k,n=k+1:=⟨n-1,by omega⟩
  have:=Nu h x hx hsd hbv hnb hn;dsimp only;rw[show(((k+1:Nat)):Int)=(k:Int)+1 by omega,show k+1-1=k by omega];exact this
end
section
variable {σ : AG Nd} {ρ : Rs}
theorem Lk.full (L:Lk σ ρ) (hw:σ.WF (fun _=>True)):ρ.FG=decide (σ.used=σ.room):=by
 unfold Rs.FG AG.used;rw[L.free,L.len,L.space];have h1:=hw.Pp;have h2:=hw.len;by_cases h0:σ.free.length=0
 · rw[h0,decide_eq_true rfl,Bool.true_and]
   exact decide_eq_decide.2 ⟨fun h=>by omega,fun h=>by omega⟩
 rw[decide_eq_false h0,Bool.false_and];exact(decide_eq_false (by omega)).symm
theorem Lk.take (L:Lk σ ρ) (hw:σ.WF (fun _=>True)) {n:Nd} {x:Sp} (hx:RC (n,1) x.held) (hu:σ.used≠σ.room):(ρ.take x).1=(σ.take n).1∧(σ.take n).2.1=0∧Lk (σ.take n).2.2 (ρ.take x).2:=by
 unfold Rs.take AG.take;rw[if_neg hu,L.free];cases hg:σ.free.getLast? with
 | none =>
  refine⟨by rw[L.len],rfl,?_⟩;have:=L.push hx;exact⟨this.space,rfl,this.len,this.slot⟩
 | some m =>
  refine⟨rfl,rfl,?_⟩;have:=L.set (m:=m-1) hx;exact⟨this.space,rfl,this.len,this.slot⟩
end
end Go.Proofs.YtngbdbpofifimaaGreat.Store
