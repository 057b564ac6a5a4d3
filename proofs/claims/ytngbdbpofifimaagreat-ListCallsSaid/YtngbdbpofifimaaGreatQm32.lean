/- Laws of the layers below. -/
import Derived.Test.YtngbdbpofifimaaGreatQm31
set_option maxHeartbeats 3200000
set_option maxRecDepth 100000
set_option linter.unusedVariables false
namespace Go.Proofs.YtngbdbpofifimaaGreat.Store
open Go.RowKit Go.Sort Go.Proofs.YtngbdbpofifimaaGreat.ShaW Go.Proofs.YtngbdbpofifimaaGreat.Path Go.Proofs.YtngbdbpofifimaaGreat.Bk
theorem QJ {w:World} {b n cap:Nat} {ao:Option Addr} {l:List Pr} (h:RowP w b (.slice ao n cap) l):l.length≤cap:=by
 rcases h.2 with⟨e,h1⟩|⟨g,c,cur,e,_,_,h3,_⟩
 · rw[h1];exact Nat.zero_le _
 injection e with _ _ e3;rw[e3];exact h3
theorem Oq {w:World} {ao:Option Addr} {l:List Pr} {cap:Nat} (h:Ba w ao l) (hc:l.length≤cap) (i:Nat):Ba w (Store.JS ao cap i) (l.drop i):=by
 refine⟨fun x hx=>h.1 x (List.mem_of_mem_drop hx),fun k x hk=>?_⟩;have hk':l[i+k]?=some x:=by rw[List.getElem?_drop] at hk;exact hk
 have hlt:=(List.getElem?_eq_some_iff.1 hk').1;obtain⟨g,off,rfl,hp⟩:=h.2 (i+k) x hk';refine⟨g,off+i*33,?_,?_⟩
 · unfold Store.JS
   rw[if_neg (by omega),Option.map_some,add_plain]
 rw[show off+i*33+k*33=off+(i+k)*33 by rw[Nat.add_mul];omega];exact hp
theorem Rh {w:World} {x:Pr} {g:Nat} (h:x.Good w) (X:Array Value) (hx:∀j,x.vv.ownBlock=some j→j<g):x.Good (w.setRow g X):=by
 have c:Ch (fun j=>j=g) w (w.setRow g X):=(Ch.refl (fun j=>j=g) w).setRow (.inl rfl) X;exact⟨h.key,h.val.Ae c (fun j hj e=>by have:=hx j hj;have e':j=g:=e;omega),fun h0 k hk=>Nat.lt_of_lt_of_le (h.blk h0 k hk) c.size⟩
section
variable {w0 w w' : World} {b : Nat} {F G : Nat→Prop} {σ : AG Nd} {root : Int} {T : Tr} {key : List UInt8}
theorem EZ (hlv:T.leaves≤65536):(BE σ root T).length≤65536:=by
 unfold BE;split
 · rw[Tr.BS];exact hlv
 exact Nat.zero_le _
def WY (G:Nat→Prop) (w:World) (E:Av) (e:Ending) (w':World):Prop:=AN w w'∧∃ao out cap,e=.returned (.slice ao (List.length out) cap)∧List.length out≤cap∧Ba w' ao out∧out.map Pr.ent=E∧(∀j,(Value.slice ao (List.length out) cap).ownBlock=some j→w.heap.size≤j)∧∀x∈out,∀j,x.vv.ownBlock=some j→¬G j
theorem NZ (h:ROw w0 w b σ G) (GG:Good σ) (hT:AX σ root=0→Rep (sk σ) root 0 T) (hlv:T.leaves≤65536) (hk:key.length=32) :
 Calls Tryz.prog 23 #[.pointer (some ⟨b,0,none⟩),.int .i64 root,.agg (AS key)] w (WY G w ((BE σ root T).filter (geK key))):=by
 have hal:=fun w1 (a:AN w w1)=>GW h GG hT hlv a
 have hri:=Mj GG hT;have hel:=EZ (σ:=σ) (root:=root) hlv;obtain⟨er,her⟩:∃er,er=AX σ root:=⟨_,rfl⟩
 obtain⟨E,hE⟩:∃E,E=BE σ root T:=⟨_,rfl⟩
 rw[←her, ←hE] at hal;rw[←hE] at hri hel ⊢;obtain⟨K,hK⟩:∃K,K=AS key:=⟨_,rfl⟩
 have hKs:K.size=32:=by rw[hK,AU,hk]
 have hbf:=fun w1 ao (l:List Pr) cap (hp:Ba w1 ao l) (hl:l.length≤100000)=>J5 cap hp hl hk
 rw[←hK] at hbf ⊢;have HR:=(hIq hal (aIq hbf (aIq hel (aIq hKs (Ls E key hri)))))
 clear hal h hT hlv her hE hbf hel hK hKs hk hri;go_enter Tryz.func23,Tryz.ntmps23;go_wp2_with fail;refine(HR.out.1 _ ((Ch.refl _ _).alloc _)).mono ?_;rintro e w1 ⟨a1,ao,out,cap,rfl,hrow,hgd,he,hnq⟩;obtain⟨ao2,cap2,e2,hp⟩:=FD hrow hgd;have e21:ao2=ao:=by injection e2 with h _ _;exact h.symm
 rw[e21] at hp;have HNQ:=(hIq (fun j hj=>Nat.le_trans ((Ch.refl (fun _=>False) w).alloc (.cells K 47)).size (hrow.lt j hj).1) hnq)
 clear hnq;have hcap:=QJ hrow;have hlen:out.length≤100000:=by have:=HR.out.2.2.1;rw[←he,List.length_map] at this;omega
 have hb:=HR.out.2.1 w1 ao out cap hp hlen;have hmm:out.map (·.key)=E.map (·.1):=by rw[←he,List.map_map];rfl
 rw[hmm] at hb;have hK5:=a1.row (heap_alloc_new w (.cells K 47)) id;obtain⟨i,hi⟩:∃i,i=bef (E.map (·.1)) key:=⟨_,rfl⟩
 have hil:i≤out.length:=by rw[hi];have:=Rz (E.map (·.1)) key;rw[List.length_map, ←he,List.length_map] at this;rw[←he];exact this
 rw[←hi] at hb;have H1:=(hIq (((Ch.refl (fun _=>False) w).alloc (.cells K 47)).trans a1 (fun _=>fEq)) (aIq hb (aIq hK5 (aIq hp (aIq hcap (aIq he hi))))))
 have hsl:∀w0:World,(Instr.sliceAt 56 (.slice ao out.length cap) (some (.int .i64 (i:Int))) none none).run Tryz.prog w0=.ok (.slice (Store.JS ao cap i) (out.length-i) (cap-i)) w0:=fun w0=>Jt ao out.length cap i hil hcap w0
 obtain⟨n,hn⟩:∃n,n=out.length:=⟨_,rfl⟩
 rw[←hn] at hsl ⊢;rw[←hn] at H1 hil;have HN:=Lib.hid hn;clear a1 hrow hgd he e2 e21 hp hlen hb hmm hK5 hcap hi hn
 go_wp2_with (first
  | fail
  | ((with_reducible show zOq (.load 47 _));refine AJ rfl 47 _ rfl w.heap.size 0 rfl H1.out.2.2.1 Tryz.underlying47 rfl Ab (by rw[HR.out.2.2.2.1];omega) K (by have:=HR.out.2.2.2.1;simp[←this]) ?_))
 refine H1.out.2.1.mono ?_;rintro e w2 ⟨rfl,a2⟩;have H2:=Lib.hid a2;clear a2;go_wp2;go_ret;have hdl:(out.drop i).length=n-i:=by rw[List.length_drop,HN.out]
 refine⟨H1.out.1.trans H2.out (fun _=>fEq),Store.JS ao cap i,out.drop i,cap-i,by rw[hdl];rfl,by rw[hdl];have:=H1.out.2.2.2.2.1;have:=HN.out;omega,(Oq H1.out.2.2.2.1 (by have:=H1.out.2.2.2.2.1;have:=HN.out;omega) i).Ae H2.out (fun _=>fEq),?_⟩;refine⟨?_,fun j hj=>?_,fun x hx j hj=>(HNQ.out.2 x (List.mem_of_mem_drop hx) j hj).2⟩
 · rw[List.map_drop,H1.out.2.2.2.2.2.1,H1.out.2.2.2.2.2.2]
   exact HR.out.2.2.2.2
 refine HNQ.out.1 j ?_;cases ao with
 | none=>simp[Store.JS,Value.ownBlock] at hj
 | some a =>
  have e1:Store.JS (some a) cap i=some a∨Store.JS (some a) cap i=some (a.add (i*33)):=by
   unfold Store.JS;split
   · exact .inl rfl
   exact .inr rfl
  rcases e1 with e1|e1<;>rw[e1] at hj
  · exact hj
  simp only[Value.ownBlock] at hj ⊢;rw[←hj];unfold Addr.add;split<;>rfl
def TB (w:World) (er:Int) (most:Int) (E:Av) (e:Ending) (w':World):Prop:=AN w w'∧((er≠0∧e=.returned (.tuple #[.slice none 0 0,.int .i64 er]))∨(er=0∧(most<0∨256<most)∧e=.returned (.tuple #[.slice none 0 0,.int .i64 2])) ∨
 (er=0∧0≤most∧most≤256∧∃ao out cap,e=.returned (.tuple #[.slice ao (List.length out) cap,.int .i64 0])∧Ba w' ao out∧out.map Pr.ent=E.take most.toNat))
theorem Sx (h:ROw w0 w b σ G) (GG:Good σ) (hT:AX σ root=0→Rep (sk σ) root 0 T) (hlv:T.leaves≤65536) (hk:key.length=32) (most:Int) :
 Calls Tryz.prog 27 #[.pointer (some ⟨b,0,none⟩),.int .i64 root,.agg (AS key),.int .i64 most] w (TB w (AX σ root) most ((BE σ root T).filter (geK key))):=by
 have hrt:=fun w1 (a:AN w w1)=>(h.adds a).root GG root
 have hfr:=fun w1 (a:AN w w1)=>NZ (h.adds a) GG hT hlv hk
 obtain⟨er,her⟩:∃er,er=AX σ root:=⟨_,rfl⟩
 obtain⟨E,hE⟩:∃E,E=(BE σ root T).filter (geK key):=⟨_,rfl⟩
 have hel:E.length≤65536:=by rw[hE];exact Nat.le_trans (List.length_filter_le _ _) (EZ hlv)
 rw[←her] at hrt;rw[←hE] at hfr;rw[←her, ←hE];obtain⟨K,hK⟩:∃K,K=AS key:=⟨_,rfl⟩
 have hKs:K.size=32:=by rw[hK,AU,hk]
 rw[←hK] at hfr ⊢;have HR:=(hIq hrt (aIq hfr (aIq hel hKs)))
 clear hrt hfr h hT hlv her hE hel hK hKs hk;go_enter Tryz.func27,Tryz.ntmps27;go_wp2_with fail;refine(HR.out.1 _ ((Ch.refl _ _).alloc _)).mono ?_;rintro e w1 ⟨rfl,a1⟩;have hK5:=a1.row (heap_alloc_new w (.cells K 47)) id;have H1:=(hIq (((Ch.refl (fun _=>False) w).alloc (.cells K 47)).trans a1 (fun _=>fEq)) hK5)
 clear a1 hK5;by_cases h0:er=0
 · subst h0
   by_cases hm0:most<0
   · have e1:decide (most<0)=true:=decide_eq_true hm0
     go_wp2;go_ret2;exact⟨H1.out.1,.inr (.inl ⟨rfl,.inl hm0,rfl⟩)⟩
   have e1:decide (most<0)=false:=decide_eq_false hm0;by_cases hm1:256<most
   · have e2:decide ((256:Int)<most)=true:=decide_eq_true hm1
     go_wp2;go_ret2;exact⟨H1.out.1,.inr (.inl ⟨rfl,.inr hm1,rfl⟩)⟩
   have e2:decide ((256:Int)<most)=false:=decide_eq_false hm1;obtain⟨m,hm⟩:∃m:Nat,most=m:=⟨most.toNat,by omega⟩
   subst hm
   go_wp2_with (first
    | fail
    | ((with_reducible show zOq (.load 47 _));refine AJ rfl 47 _ rfl w.heap.size 0 rfl H1.out.2 Tryz.underlying47 rfl Ab (by rw[HR.out.2.2.2];omega) K (by have:=HR.out.2.2.2;simp[←this]) ?_))
   refine(HR.out.2.1 _ H1.out.1).mono ?_;rintro e w2 ⟨a2,ao,out,cap,rfl,hcap,hp,he,_⟩;obtain⟨n,hn⟩:∃n,n=out.length:=⟨_,rfl⟩
   obtain⟨j,hj⟩:∃j,j=min n m:=⟨_,rfl⟩
   have hmin:min (n:Int) (m:Int)=(j:Int):=by omega
   have hsl:∀w0:World,(Instr.sliceAt 56 (.slice ao n cap) none (some (.int .i64 (j:Int))) none).run Tryz.prog w0=.ok (.slice ao j cap) w0:=fun w0=>Jv ao n cap j (by omega) w0
   rw[←hn];have H2:=(hIq (H1.out.1.trans a2 (fun _=>fEq)) (aIq hp (aIq he (aIq hn hj))))
   clear a2 hp he hn hj hcap;go_wp2;go_ret2;have hdl:(out.take j).length=j:=by rw[List.length_take];have:=H2.out.2.2.2.1;have:=H2.out.2.2.2.2;omega
   refine⟨H2.out.1,.inr (.inr ⟨rfl,by omega,by omega,ao,out.take j,cap,by rw[hdl];rfl,⟨fun x hx=>H2.out.2.1.1 x (List.mem_of_mem_take hx),fun k x hx=>H2.out.2.1.2 k x ?_⟩,?_⟩)⟩
   · have hlt:=(List.getElem?_eq_some_iff.1 hx).1
     rw[hdl] at hlt;rw[List.getElem?_take_of_lt hlt] at hx;exact hx
   rw[List.map_take,H2.out.2.2.1];have h5:=H2.out.2.2.2.1;have h6:=H2.out.2.2.2.2;have h7:E.length=n:=by rw[h5, ←H2.out.2.2.1,List.length_map]
   rw[h6, ←h7,show((m:Int)).toNat=m from Int.toNat_natCast m];by_cases hc:m≤E.length
   · rw[Nat.min_eq_right hc]
   rw[Nat.min_eq_left (by omega),List.take_of_length_le (Nat.le_refl _),List.take_of_length_le (by omega)]
 have hb:(er != 0)=true:=by simpa using h0
 have H0:=Lib.hid h0;clear h0;go_wp2;go_ret2;exact⟨H1.out.1,.inl ⟨H0.out,rfl⟩⟩
def K7 (nb:Nat) (w:World) (er n:Int) (E:Av) (e:Ending) (w':World):Prop:=AN w w'∧((er≠0∧e=.returned (.tuple #[.agg Di,.int .i64 er]))∨(er=0∧(n<0∨(E.length:Int)≤n)∧e=.returned (.tuple #[.agg Di,.int .i64 (if n<0 then 2 else 7)])) ∨
 (er=0∧∃(k:Nat) (x:Pr),n=k∧E[k]?=some x.ent∧x.Good w'∧(∀j,x.vv.ownBlock=some j→j<nb∨w.heap.size≤j)∧e=.returned (.tuple #[.agg x.cells,.int .i64 0])))
theorem Uu {wa:World} (h:ROw w0 wa b σ G) (GG:Good σ) (hT:AX σ root=0→Rep (sk σ) root 0 T) (hlv:T.leaves≤65536) (ax:AN wa w) (n:Int) :
 Calls Tryz.prog 77 #[.pointer (some ⟨b,0,none⟩),.int .i64 root,.int .i64 n] w (K7 wa.heap.size w (AX σ root) n (BE σ root T)):=by
 have hal:=fun w1 (a:AN w w1)=>GW h GG hT hlv (ax.trans a (fun _=>fEq))
 obtain⟨nb,hnb⟩:∃nb,nb=wa.heap.size:=⟨_,rfl⟩
 have HNB:=Lib.hid (show nb≤w.heap.size by rw[hnb];exact ax.size);rw[←hnb] at hal;rw[←hnb];have hel:=EZ (σ:=σ) (root:=root) hlv;obtain⟨er,her⟩:∃er,er=AX σ root:=⟨_,rfl⟩
 obtain⟨E,hE⟩:∃E,E=BE σ root T:=⟨_,rfl⟩
 rw[←her, ←hE] at hal;rw[←hE] at hel;rw[←her, ←hE];obtain⟨Z,hZ⟩:∃Z,Z=Di:=⟨_,rfl⟩
 obtain⟨hz0,hz1,hz2,hz3⟩:=Hj;rw[←hZ] at hz0 hz1 hz2 hz3;have HZ0:=Lib.hid hZ;have HR:=(hIq hal hel)
 have HZ:=(hIq hz0 (aIq hz1 (aIq hz2 hz3)))
 clear hal h hT hlv her hE hel hZ hz0 hz1 hz2 hz3 hnb ax;go_enter Tryz.func77,Tryz.ntmps77;go_wp2_with (first|fail|((with_reducible show zOq (.alloc 86));refine AO rfl 86 rfl (.agg Z) HZ.out.1 ?_;dsimp only[Value.cells];try simp only[World.size_alloc]));refine(HR.out.1 _ ((Ch.refl _ _).alloc _)).mono ?_;rintro e w1 ⟨a1,ao,out,cap,rfl,hrow,hgd,he,hold⟩;obtain⟨ao2,cap2,e2,hp⟩:=FD hrow hgd;have e21:ao2=ao:=by injection e2 with h _ _;exact h.symm
 rw[e21] at hp;obtain⟨m,hm⟩:∃m,m=out.length:=⟨_,rfl⟩
 rw[←hm];have hmE:m=E.length:=by rw[hm, ←he,List.length_map]
 have A2:=(hIq (((Ch.refl (fun _=>False) w).alloc (.cells Z 86)).trans a1 (fun _=>fEq)) (a1.row (heap_alloc_new w (.cells Z 86)) id))
 have HP:=(hIq hp (aIq he (aIq hm hmE)))
 have HOLD:=Lib.hid hold;clear a1 hrow hgd he e2 e21 hp hm hmE hold;by_cases h0:er=0
 · subst h0
   by_cases hn0:n<0
   · have f1:decide (n<0)=true:=decide_eq_true hn0
     have HN:=Lib.hid hn0;clear hn0
     go_wp2_with (first
      | fail
      | ((with_reducible show zOq (.build 86 #[]));refine Ax rfl 86 rfl Z HZ.out.2.2.2 ?_)
      | ((with_reducible show zOq (.store 86 _ _));refine AI rfl 86 _ _ rfl w.heap.size 0 Z rfl rfl A2.out.2 (by rw[B8,HZ.out.2.1]) (by rw[HZ.out.2.1];omega) HZ.out.2.2.1 Z (by rw[AT _ _ rfl]) ?_))
     exact Al (p:=6) (u:=7) rfl rfl (AK A2.out.2 _) Tryz.underlying86 rfl (by rw[B8,HZ.out.2.1]) rfl (by unfold K7;exact⟨A2.out.1.setRow (.inr (Nat.le_refl _)) _,.inr (.inl ⟨rfl,.inl HN.out,by rw[if_pos HN.out, ←HZ0.out];rfl⟩)⟩)
   have f1:decide (n<0)=false:=decide_eq_false hn0;by_cases hnm:(m:Int)≤n
   · have f2:decide ((m:Int)≤n)=true:=decide_eq_true hnm
     have HN:=(hIq hn0 (show(E.length:Int)≤n by have:=HP.out.2.2.2;omega))
     clear hn0 hnm
     go_wp2_with (first
      | fail
      | ((with_reducible show zOq (.build 86 #[]));refine Ax rfl 86 rfl Z HZ.out.2.2.2 ?_)
      | ((with_reducible show zOq (.store 86 _ _));refine AI rfl 86 _ _ rfl w.heap.size 0 Z rfl rfl A2.out.2 (by rw[B8,HZ.out.2.1]) (by rw[HZ.out.2.1];omega) HZ.out.2.2.1 Z (by rw[AT _ _ rfl]) ?_))
     exact Al (p:=6) (u:=7) rfl rfl (AK A2.out.2 _) Tryz.underlying86 rfl (by rw[B8,HZ.out.2.1]) rfl (by unfold K7;exact⟨A2.out.1.setRow (.inr (Nat.le_refl _)) _,.inr (.inl ⟨rfl,.inr HN.out.2,by rw[if_neg (by have:=HN.out.1;omega), ←HZ0.out];rfl⟩)⟩)
   have f2:decide ((m:Int)≤n)=false:=decide_eq_false hnm;obtain⟨k,hk⟩:∃k:Nat,n=k:=⟨n.toNat,by omega⟩
   subst hk;have hkm:(k:Int)<(m:Int):=by omega
   have hkm':k<m:=by omega
   obtain⟨x,hx⟩:∃x,out[k]?=some x:=⟨_,List.getElem?_eq_getElem (by have:=HP.out.2.2.1;omega)⟩
   obtain⟨g0,off,rfl,cur,ty,fr,c1,c2,c3⟩:=HP.out.1.2 k x hx;have hg:=HP.out.1.1 x (List.mem_of_getElem? hx);rw[Pr.size hg.key] at c2 c3;obtain⟨X,hX⟩:∃X,X=x.cells:=⟨_,rfl⟩
   rw[←hX] at c3;have HX:=(hIq c1 (aIq c2 (aIq c3 (aIq (show X.size=33 by rw[hX];exact Pr.size hg.key) (aIq (show ∀v∈X.toList,v.oneCell'=true by rw[hX];exact Pr.one hg) (aIq hX (aIq hg (aIq (show E[k]?=some x.ent by rw[←HP.out.2.1,List.getElem?_map,hx];rfl) (fun j hj=>(HOLD.out x (List.mem_of_getElem? hx) j hj).1)))))))))
   clear hn0 hnm hx c1 c2 c3 hg hX
   go_wp2_with (first
    | fail
    | ((with_reducible show zOq (.load 86 _));refine AJ rfl 86 _ rfl g0 (off+k*33) rfl HX.out.1 Tryz.underlying86 rfl B8 (by have:=HX.out.2.1;omega) X HX.out.2.2.1 ?_)
    | ((with_reducible show zOq (.store 86 _ _));refine AI rfl 86 _ _ rfl w.heap.size 0 X rfl rfl A2.out.2 (by rw[B8,HX.out.2.2.2.1]) (by rw[HX.out.2.2.2.1,HZ.out.2.1];omega) HX.out.2.2.2.2.1 X (by rw[AT _ _ (by rw[Array.length_toList,Array.length_toList,HX.out.2.2.2.1,HZ.out.2.1])]) ?_))
   exact Al (p:=6) (u:=7) rfl rfl (AK A2.out.2 _) Tryz.underlying86 rfl (by rw[B8,HX.out.2.2.2.1]) rfl (by unfold K7;exact⟨A2.out.1.setRow (.inr (Nat.le_refl _)) _,.inr (.inr ⟨rfl,k,x,rfl,HX.out.2.2.2.2.2.2.2.1,Rh HX.out.2.2.2.2.2.2.1 X (fun j hj=>Nat.lt_of_lt_of_le (HX.out.2.2.2.2.2.2.2.2 j hj) HNB.out),fun j hj=>.inl (HX.out.2.2.2.2.2.2.2.2 j hj),by rw[←HX.out.2.2.2.2.2.1];rfl⟩)⟩)
 have hb:(er != 0)=true:=by simpa using h0
 have H0:=Lib.hid h0;clear h0
 go_wp2_with (first
  | fail
  | ((with_reducible show zOq (.build 86 #[]));refine Ax rfl 86 rfl Z HZ.out.2.2.2 ?_)
  | ((with_reducible show zOq (.store 86 _ _));refine AI rfl 86 _ _ rfl w.heap.size 0 Z rfl rfl A2.out.2 (by rw[B8,HZ.out.2.1]) (by rw[HZ.out.2.1];omega) HZ.out.2.2.1 Z (by rw[AT _ _ rfl]) ?_))
 exact Al (p:=6) (u:=7) rfl rfl (AK A2.out.2 _) Tryz.underlying86 rfl (by rw[B8,HZ.out.2.1]) rfl (by unfold K7;exact⟨A2.out.1.setRow (.inr (Nat.le_refl _)) _,.inl ⟨H0.out,by rw[←HZ0.out];rfl⟩⟩)
end
end Go.Proofs.YtngbdbpofifimaaGreat.Store
namespace Go.Proofs.YtngbdbpofifimaaGreat.Store
open Go.RowKit Go.Proofs.YtngbdbpofifimaaGreat.ShaW Go.Proofs.YtngbdbpofifimaaGreat.Path
section
variable {w0 w w' : World} {b : Nat} {σ : AG Nd} {F G : Nat→Prop}
theorem RU (h:ROw w0 w b σ G) (root:Int) (K:Array Value) (ao:Option Addr) (len cap:Nat) (hl:1024<len) :
 Calls Tryz.prog 224 #[.pointer (some ⟨b,0,none⟩),.int .i64 root,.agg K,.slice ao len cap] w fun e w'=>e=.returned (.tuple #[.int .i64 0,.int .i64 4])∧AN w w':=by
 have a0:AN w (w.alloc (.cells K 47)):=(Ch.refl (fun _=>False) w).alloc _;have HW:=Lib.hid (JE (h.adds a0) root ao len cap hl);have A0:=Lib.hid a0;clear h a0 hl;go_enter Tryz.func224,Tryz.ntmps224;go_wp2_with fail;refine HW.out.mono ?_;rintro e w1 ⟨rfl,a1⟩;go_wp2;go_ret2;exact⟨rfl,A0.out.trans a1 (fun _=>fEq)⟩
theorem RL (h:ROw w0 w b σ G) (GG:Good σ) (root:Int) (K:Array Value) (ao:Option Addr) (len cap:Nat) (hl:len≤1024) (hh:Az σ root≠0) :
 Calls Tryz.prog 224 #[.pointer (some ⟨b,0,none⟩),.int .i64 root,.agg K,.slice ao len cap] w fun e w'=>e=.returned (.tuple #[.int .i64 0,.int .i64 (Az σ root)])∧AN w w':=by
 have a0:AN w (w.alloc (.cells K 47)):=(Ch.refl (fun _=>False) w).alloc _;have hw:=DO (h.adds a0) GG root ao len cap hl;obtain⟨er,her⟩:∃x,x=Az σ root:=⟨_,rfl⟩
 rw[←her] at hw hh ⊢;have hn:(er != 0)=true:=by simpa using hh
 have HW:=Lib.hid hw;have A0:=Lib.hid a0;clear h a0 hl hw her;go_enter Tryz.func224,Tryz.ntmps224;go_wp2_with fail;refine HW.out.mono ?_;rintro e w1 ⟨rfl,a1⟩;go_wp2;go_ret2;exact⟨rfl,A0.out.trans a1 (fun _=>fEq)⟩
theorem QY (h:ROw w0 w b σ G) (GG:Good σ) (root:Int) (K:Array Value) (ao:Option Addr) (len cap:Nat) (hl:len≤1024) (hh:Az σ root=0) (hf:C9 σ 1=false) :
 Calls Tryz.prog 224 #[.pointer (some ⟨b,0,none⟩),.int .i64 root,.agg K,.slice ao len cap] w fun e w'=>e=.returned (.tuple #[.int .i64 0,.int .i64 9])∧AN w w':=by
 have a0:AN w (w.alloc (.cells K 47)):=(Ch.refl (fun _=>False) w).alloc _;have hw:=DO (h.adds a0) GG root ao len cap hl;have hft:=fun w1 (a:AN w w1)=>Gg (h.adds a) GG 1
 rw[hh] at hw;rw[hf] at hft;have HW:=Lib.hid hw;have HF:=Lib.hid hft;have A0:=Lib.hid a0;clear h a0 hl hw hh hft hf;go_enter Tryz.func224,Tryz.ntmps224;go_wp2_with fail;refine HW.out.mono ?_;rintro e w1 ⟨rfl,a1⟩;have A1:=Lib.hid (A0.out.trans a1 (fun _=>fEq));clear a1;go_wp2_with fail;refine(HF.out _ A1.out).mono ?_;rintro e w2 ⟨rfl,a2⟩;go_wp2;go_ret2;exact⟨rfl,A1.out.trans a2 (fun _=>fEq)⟩
theorem Qb (h:ROw w0 w b σ G) (GG:Good σ) (root:Int) (key:List UInt8) (hk:key.length=32) {vv:Value} {bs:List UInt8} (hb:Bytes w vv bs) (hl:bs.length≤1024) (hh:Az σ root=0) (hf:C9 σ 1=true)
 {l:List Int} {e1:Int} (ho:On (sk σ) key root 0 l e1) (hs:Dh σ key bs e1=true) :
 Calls Tryz.prog 224 #[.pointer (some ⟨b,0,none⟩),.int .i64 root,.agg (AS key),vv] w fun e w'=>e=.returned (.tuple #[.int .i64 root,.int .i64 0])∧AN w w':=by
 obtain⟨ao,cap,hvv,_⟩:=hb.form;obtain⟨K,hK⟩:∃K,K=AS key:=⟨_,rfl⟩
 have hKs:K.size=32:=by rw[hK,AU,hk]
 have a0:AN w (w.alloc (.cells K 47)):=(Ch.refl (fun _=>False) w).alloc _;have hw:=DO (h.adds a0) GG root ao bs.length cap hl;have hft:=fun w1 (a:AN w w1)=>Gg (h.adds a) GG 1
 have hwy:=fun w1 (a:AN w w1)=>OV (h.adds a) GG root key hk ho
 have hth:=fun w1 (a:AN w w1)=>J3 (h.adds a) GG e1 key hk (hb.Ae a (fun _ _ h=>h))
 rw[hh] at hw;rw[hf] at hft;rw[hs, ←hK] at hth;rw[←hK] at hwy ⊢;subst hvv;have HW:=Lib.hid hw;have HF:=Lib.hid hft;have HY:=Lib.hid hwy;have HT:=Lib.hid hth;have HK:=Lib.hid hKs;have A0:=Lib.hid a0;clear h a0 hl hw hh hft hf hwy hth hs hK hKs ho hb;go_enter Tryz.func224,Tryz.ntmps224;go_wp2_with fail;refine HW.out.mono ?_;rintro e w1 ⟨rfl,a1⟩;have k1:=a1.row (heap_alloc_new w (.cells K 47)) id;have A1:=(hIq (A0.out.trans a1 (fun _=>fEq)) k1)
 clear a1 k1;go_wp2_with fail;refine(HF.out _ A1.out.1).mono ?_;rintro e w2 ⟨rfl,a2⟩;have A2:=(hIq (A1.out.1.trans a2 (fun _=>fEq)) (a2.row A1.out.2 id))
 clear a2
 go_wp2_with (first
  | fail
  | ((with_reducible show zOq (.load 47 _));refine AJ rfl 47 _ rfl w.heap.size 0 rfl A2.out.2 Tryz.underlying47 rfl Ab (by rw[HK.out];omega) K (by simp[←HK.out]) ?_))
 refine(HY.out _ A2.out.1).mono ?_;rintro e w3 ⟨v,rfl,o3,a3⟩;obtain⟨ao3,cap3,rfl⟩:=Am o3;have A3:=(hIq (A2.out.1.trans a3 (fun _=>fEq)) (a3.row A2.out.2 id))
 clear a3 o3
 go_wp2_with (first
  | fail
  | ((with_reducible show zOq (.load 47 _));refine AJ rfl 47 _ rfl w.heap.size 0 rfl A3.out.2 Tryz.underlying47 rfl Ab (by rw[HK.out];omega) K (by simp[←HK.out]) ?_))
 refine(HT.out _ A3.out.1).mono ?_;rintro e w4 ⟨rfl,a4⟩;go_wp2;go_ret2;exact⟨rfl,A3.out.1.trans a4 (fun _=>fEq)⟩
def Ep (b0:Nat) (K:Array Value) (ao:Option Addr) (cap:Nat) (l:List Int) (w:World):Prop :=
 w.heap[b0]?=some (.cells K 47 (0,0))∧w.ownsRow 0 3 1 (.slice ao l.length cap) l.length (hl l)
def Mw (G:Nat→Prop) (b0:Nat) (ao:Option Addr) (n cap:Nat) (k:Nat):Prop:=G k∨k=b0∨(Value.slice ao n cap).ownBlock=some k
theorem Ep.but {b0 cap:Nat} {K:Array Value} {ao:Option Addr} {l:List Int} (h:Ep b0 K ao cap l w) (c:But (Mw G b0 ao l.length cap) w w'):Ep b0 K ao cap l w' :=
 ⟨c.row h.1 (.inr (.inl rfl)),Ch.owns c h.2 (fun k hk hn=>hn (.inr (.inr hk)))⟩
theorem Ep.adds {b0 cap:Nat} {K:Array Value} {ao:Option Addr} {l:List Int} (h:Ep b0 K ao cap l w) (c:AN w w'):Ep b0 K ao cap l w' :=
 ⟨c.row h.1 id,c.owns h.2 (fun _ _ h=>h)⟩
theorem N8 (GG:Good σ) (n:Int):0≤(nd σ n).left∧0≤(nd σ n).right:=by
 cases hx:σ.get? n with
 | none=>rw[B9 hx];exact⟨Int.le_refl 0,Int.le_refl 0⟩
 | some x =>
  rw[Ap hx];refine⟨?_,?_⟩
  · by_cases e:x.1.left=0
    · omega
    obtain⟨y,hy,_⟩:=GG.sound.left n x hx e;obtain⟨m,hm,_⟩:=AG.Ac hy;omega
  by_cases e:x.1.right=0
  · omega
  obtain⟨y,hy,_⟩:=GG.sound.right n x hx e;obtain⟨m,hm,_⟩:=AG.Ac hy;omega
theorem PN (GG:Good σ) (k:List UInt8) (h:Int) (d:Nat):0≤DB σ k h d:=by
 unfold DB;split
 · exact(N8 GG h).1
 exact(N8 GG h).2
theorem TX (GG:Good σ) {root:Int} (h:Az σ root=0):0≤root:=by
 rcases QS GG.sound h with e|e
 · omega
 obtain⟨x,hx,_⟩:=Bd e;obtain⟨m,hm,_⟩:=AG.Ac hx;omega
theorem On.final {f:View} {k:List UInt8} {h:Int} {d:Nat} {l:List Int} {e:Int} (ho:On f k h d l e):e=0∨∃n,f e=some n∧n.kind≠2:=by
 induction ho with
 | stop h0=>exact h0
 | step _ _ _ _ ih=>exact ih
theorem Rg (GG:Good σ) {key:List UInt8} (hk:key.length=32) (value:List UInt8) (v:Value) {k:List UInt8} {h:Int} {d:Nat} {l:List Int} {e:Int} (ho:On (sk σ) k h d l e):nd (As σ key value v).2.2 e=nd σ e:=by
 rcases ho.final with rfl|⟨n,hn,_⟩
 · have z:∀τ:AG Nd,τ.get? 0=none:=fun τ=>by
    cases hx:τ.get? 0 with
    | none=>rfl
    | some x=>obtain⟨m,hm,_⟩:=AG.Ac hx;omega
   rw[B9 (z _),B9 (z _)]
 obtain⟨x,hx,_⟩:=Ev hn;rw[Ap hx,Ap (LP GG.sound.wf hx)]
end
end Go.Proofs.YtngbdbpofifimaaGreat.Store
