/- Laws of the layers below. -/
import Derived.Test.YtngbdbpofifimaaGreatQl13
import Derived.Lib.Bytealg
import Derived.Sort.Statements
set_option maxHeartbeats 3200000
set_option maxRecDepth 100000
set_option linter.unusedVariables false
namespace Go.Proofs.YtngbdbpofifimaaGreat.Store
open Go.RowKit Go.Proofs.YtngbdbpofifimaaGreat.ShaW Go.Proofs.YtngbdbpofifimaaGreat.Path
theorem QS {a b:UInt8}:a<b↔a.toNat<b.toNat:=UInt8.lt_iff_toNat_lt
theorem aW {a b:UInt8}:a=b↔a.toNat=b.toNat:=UInt8.toNat_inj.symm
theorem Jl (n j:Nat) (hj:j<8):n / 2 ^ (7-j)=2*(n / 2 ^ (8-j))+n / 2 ^ (7-j) % 2:=by
 have:n / 2 ^ (8-j)=n / 2 ^ (7-j) / 2:=by
  rw[Nat.div_div_eq_div_mul, ←Nat.pow_succ,Nat.succ_eq_add_one,show 7-j+1=8-j by omega]
 omega
theorem LG (x y:UInt8):∀j,j≤8→(∀i,i<j→CV x i=CV y i)→x.toNat / 2 ^ (8-j)=y.toNat / 2 ^ (8-j)
 | 0,_,_=>by
  have a:=x.toNat_lt;have b:=y.toNat_lt;rw[Nat.div_eq_of_lt (by simpa using a),Nat.div_eq_of_lt (by simpa using b)]
 | j+1,hj,h=>by
  have ih:=LG x y j (by omega) (fun i hi=>h i (by omega));have e:=h j (by omega);unfold CV at e;have a:=Jl x.toNat j (by omega);have b:=Jl y.toNat j (by omega);rw[show 8-(j+1)=7-j by omega,a,b,ih,e]
theorem Wy (x y:UInt8) (j:Nat) (hj:j<8) (h:∀i,i<j→CV x i=CV y i) (hx:CV x j=0) (hy:CV y j=1):x<y:=by
 rw[QS];have e:=LG x y j (by omega) h;have a:=Jl x.toNat j hj;have b:=Jl y.toNat j hj;unfold CV at hx hy;rw[hx,e] at a;rw[hy] at b;rcases Nat.lt_or_ge x.toNat y.toNat with g|g
 · exact g
 have:=Nat.div_le_div_right (c:=2 ^ (7-j)) g;omega
theorem Rw (x y:UInt8) (h:∀i,i<8→CV x i=CV y i):x=y:=by
 rw[aW];have e:=LG x y 8 (Nat.le_refl _) h;simpa using e
theorem Fg (x:UInt8) (l:List UInt8) {d:Nat} (h:d<8):AU (x::l) d=CV x d:=by
 unfold AU;rw[Nat.div_eq_of_lt h,Nat.mod_eq_of_lt h];rfl
theorem JQ (x:UInt8) (l:List UInt8) (d:Nat):AU (x::l) (d+8)=AU l d:=by
 unfold AU;rw[Nat.add_div_right _ (by omega),Nat.add_mod_right];rfl
theorem MG:∀(a b:List UInt8) (d:Nat),a.length=b.length→d<8*a.length→Pre a b d→AU a d=0→AU b d=1→Lib.compareBytes a b = -1
 | [],_,d,_,h,_,_,_=>absurd h (by simp)
 | _::_,[],_,h,_,_,_,_=>absurd h (by simp)
 | x::l,y::m,d,hl,hd,hp,ha,hb=>by
  by_cases h8:d<8
  · rw[Fg x l h8] at ha
    rw[Fg y m h8] at hb;have:=Wy x y d h8 (fun i hi=>by have:=hp i hi;rwa [Fg x l (by omega),Fg y m (by omega)] at this) ha hb;unfold Lib.compareBytes;rw[if_pos this]
  obtain⟨e,rfl⟩:∃e,d=e+8:=⟨d-8,by omega⟩
  rw[JQ] at ha hb;have hxy:=Rw x y (fun i hi=>by have:=hp i (by omega);rwa [Fg x l hi,Fg y m hi] at this);subst hxy;unfold Lib.compareBytes;rw[if_neg (UInt8.lt_irrefl x),if_neg (UInt8.lt_irrefl x)];refine MG l m e (by simpa using hl) (by simp at hd;omega) (fun i hi=>?_) ha hb;have:=hp (i+8) (by omega)
  rwa [JQ,JQ] at this
theorem Hs:∀a:List UInt8,Lib.compareBytes a a=0
 | []=>rfl
 | x::l=>by
  unfold Lib.compareBytes;rw[if_neg (UInt8.lt_irrefl x),if_neg (UInt8.lt_irrefl x)];exact Hs l
theorem Gg:∀a b c:List UInt8,Lib.compareBytes a b<0→Lib.compareBytes b c<0→Lib.compareBytes a c<0
 | [],[],c,h,_=>absurd h (by decide)
 | [],_::_,[],_,h=>absurd h (by simp[Lib.compareBytes])
 | [],_::_,_::_,_,_=>by simp[Lib.compareBytes]
 | _::_,[],_,h,_=>absurd h (by simp[Lib.compareBytes])
 | _::_,_::_,[],_,h=>absurd h (by simp[Lib.compareBytes])
 | x::a,y::b,z::c,h1,h2=>by
  have ih:=Gg a b c;unfold Lib.compareBytes at h1 h2 ⊢;simp only[QS] at h1 h2 ⊢;by_cases e1:x.toNat<y.toNat
  · by_cases e2:y.toNat<z.toNat
    · rw[if_pos (by omega)];decide
    rw[if_neg e2] at h2;by_cases e3:z.toNat<y.toNat
    · rw[if_pos e3] at h2;exact absurd h2 (by decide)
    rw[if_pos (by omega)];decide
  rw[if_neg e1] at h1;by_cases e0:y.toNat<x.toNat
  · rw[if_pos e0] at h1;exact absurd h1 (by decide)
  rw[if_neg e0] at h1;by_cases e2:y.toNat<z.toNat
  · rw[if_pos (by omega)];decide
  rw[if_neg e2] at h2;by_cases e3:z.toNat<y.toNat
  · rw[if_pos e3] at h2;exact absurd h2 (by decide)
  rw[if_neg e3] at h2;rw[if_neg (by omega),if_neg (by omega)];exact ih h1 h2
theorem Et:∀a b c:List UInt8,¬Lib.compareBytes a b<0→¬Lib.compareBytes b c<0→¬Lib.compareBytes a c<0
 | [],[],c,_,h=>h
 | [],_::_,_,h,_=>absurd (by simp[Lib.compareBytes]) h
 | _::_,[],[],_,_=>by simp[Lib.compareBytes]
 | _::_,[],_::_,_,h=>absurd (by simp[Lib.compareBytes]) h
 | _::_,_::_,[],_,_=>by simp[Lib.compareBytes]
 | x::a,y::b,z::c,h1,h2=>by
  have ih:=Et a b c;unfold Lib.compareBytes at h1 h2 ⊢;simp only[QS] at h1 h2 ⊢;by_cases e1:x.toNat<y.toNat
  · rw[if_pos e1] at h1;exact absurd (by decide) h1
  rw[if_neg e1] at h1;by_cases e2:y.toNat<z.toNat
  · rw[if_pos e2] at h2;exact absurd (by decide) h2
  rw[if_neg e2] at h2;rw[if_neg (by omega)];by_cases e0:y.toNat<x.toNat
  · rw[if_pos (by omega)];decide
  rw[if_neg e0] at h1;by_cases e3:z.toNat<y.toNat
  · rw[if_pos (by omega)];decide
  rw[if_neg e3] at h2;rw[if_neg (by omega)];exact ih h1 h2
def C8 (L:AS):Prop:=L.Pairwise fun p q=>¬Lib.compareBytes q.1 p.1<0
theorem C8.take {L:AS} (h:C8 L) (n:Nat):C8 (L.take n):=h.sublist (List.take_sublist n L)
theorem C8.drop {L:AS} (h:C8 L) (n:Nat):C8 (L.drop n):=h.sublist (List.drop_sublist n L)
theorem RI {L:AS} {k:List UInt8} {d:Nat} (hO:L.Ok k d) (hd:d<256) (hr:C8 L) {i j:Nat} {p q:List UInt8×List UInt8} (hij:i≤j) (hp:L[i]?=some p) (hq:L[j]?=some q) (h1:AU p.1 d=1):AU q.1 d=1:=by
 rcases Nat.lt_or_ge i j with h|h
 · rcases Au q.1 d with h0|h0
   · exfalso
     have mp:=List.mem_of_getElem? hp;have mq:=List.mem_of_getElem? hq;have hc:=MG q.1 p.1 d (by rw[hO.len p mp,hO.len q mq]) (by rw[hO.len q mq];omega) ((hO.pre q mq).trans (hO.pre p mp).symm) h0 h1;obtain⟨hil,rfl⟩:=List.getElem?_eq_some_iff.1 hp;obtain⟨hjl,rfl⟩:=List.getElem?_eq_some_iff.1 hq;have:=List.pairwise_iff_getElem.1 hr i j hil hjl h;rw[hc] at this;exact this (by decide)
   exact h0
 have:i=j:=by omega
 subst this;rw[hp] at hq;cases hq;exact h1
theorem JA {L:AS} {k:List UInt8} {d n:Nat} (hO:L.Ok k d) (hd:d<256) (hr:C8 L) (h0:∀i p,i<n→L[i]?=some p→AU p.1 d=0) (h1:∀p,L[n]?=some p→AU p.1 d=1):sideE 0 d L=L.take n∧sideE 1 d L=L.drop n:=by
 have a0:∀p∈L.take n,AU p.1 d=0:=fun p hp=>by
  obtain⟨i,hi⟩:=List.mem_iff_getElem?.1 hp;rw[List.getElem?_take] at hi;split at hi
  · rename_i hin
    exact h0 i p hin hi
  cases hi
 have a1:∀p∈L.drop n,AU p.1 d=1:=fun p hp=>by
  obtain⟨i,hi⟩:=List.mem_iff_getElem?.1 hp;rw[List.getElem?_drop] at hi;have hnl:n<L.length:=by have:=(List.getElem?_eq_some_iff.1 hi).1;omega
  exact RI hO hd hr (Nat.le_add_right n i) (List.getElem?_eq_getElem hnl) hi (h1 _ (List.getElem?_eq_getElem hnl))
 have hs:=List.take_append_drop n L;constructor
 · unfold sideE
   conv=>lhs;rw[←hs,List.filter_append]
   rw[List.filter_eq_self.2 (fun p hp=>by simp[a0 p hp]),List.filter_eq_nil_iff.2 (fun p hp=>by simp[a1 p hp]),List.append_nil]
 unfold sideE
 conv=>lhs;rw[←hs,List.filter_append]
 rw[List.filter_eq_nil_iff.2 (fun p hp=>by simp[a0 p hp]),List.filter_eq_self.2 (fun p hp=>by simp[a1 p hp]),List.nil_append]
theorem AS.Ok.sides {L:AS} {k:List UInt8} {d:Nat} (hO:L.Ok k d) (b:Nat) (hb:b<2):∃k',AS.Ok (sideE b d L) k' (d+1):=by
 match hL:sideE b d L with
 | []=>exact⟨k,by simp[keysOf],by simp,by simp⟩
 | p::R =>
  have hm:∀q∈sideE b d L,q∈L∧AU q.1 d=b:=fun q hq=>⟨(List.mem_filter.1 hq).1,by simpa using (List.mem_filter.1 hq).2⟩
  have hp:=hm p (by rw[hL];simp);refine⟨p.1,?_⟩;rw[←hL];exact⟨(hO.filter _).nodup,(hO.filter _).len,fun q hq=>((hO.pre q (hm q hq).1).trans (hO.pre p hp.1).symm).next (by rw[(hm q hq).2,hp.2])⟩
theorem Tr.B9:∀t:Tr,t.dig.length=32
 | .nil=>Tag.AT _ _
 | .leaf _ _=>Tag.AT _ _
 | .node _ _=>Tag.AT _ _
theorem UP {l r:Nd} (hl:l.Ok) (hr:r.Ok) (d left right:Int) (hd0:0≤d) (hd1:d≤255) (h0:left=0) (h1:right=0) (w:World) :
 Calls Tryz.prog 250 #[.int .i64 d,.int .i64 left,.int .i64 right,l.enc,r.enc] w fun e w'=>e=.returned (.bool false)∧Adds w w':=by
 have fl:=C7 hl d 0 hd0 hd1;have fr:=C7 hr d 1 hd0 hd1;have kl:=Nd.Bh hl;have kr:=Nd.Bh hr;have xl:=Nd.BX hl;have xr:=Nd.BX hr;have sl:=Nd.Ab hl;have sr:=Nd.Ab hr;have hcm:=C0 l.key r.key hl.key hr.key;unfold Nd.enc at fl fr ⊢;obtain⟨L,hL⟩:∃L,L=l.cells:=⟨_,rfl⟩
 obtain⟨R,hR⟩:∃R,R=r.cells:=⟨_,rfl⟩
 obtain⟨KL,hKL⟩:∃KL,KL=AK l.key:=⟨_,rfl⟩
 obtain⟨KR,hKR⟩:∃KR,KR=AK r.key:=⟨_,rfl⟩
 rw[←hL] at fl kl xl sl;rw[←hR] at fr kr xr sr;rw[←hL, ←hR];rw[←hKL] at xl hcm;rw[←hKR] at xr hcm;clear hL hR hKL hKR hl hr;have al:=D8 w L R;have ar:=DT w L R;subst h0 h1;have SL:=(hIq sl xl)
 have SR:=(hIq sr xr)
 have FL:=Lib.hid fl;have FR:=Lib.hid fr;have AL:=Lib.hid al;have AR:=Lib.hid ar;have CM:=Lib.hid hcm;clear fl fr kl kr xl xr sl sr hcm al ar;go_enter Tryz.func250,Tryz.ntmps250;go_wp2;go_ret;exact⟨rfl,(Eg w _ _)⟩
theorem Mm {l r:Nd} (hl:l.Ok) (hr:r.Ok) (d left right:Int) (hd0:0≤d) (hd1:d≤255) (h0:left=0) (h1:right≠0) (hk:r.kind≠2) (w:World) :
 Calls Tryz.prog 250 #[.int .i64 d,.int .i64 left,.int .i64 right,l.enc,r.enc] w fun e w'=>e=.returned (.bool false)∧Adds w w':=by
 have fl:=C7 hl d 0 hd0 hd1;have fr:=C7 hr d 1 hd0 hd1;have kl:=Nd.Bh hl;have kr:=Nd.Bh hr;have xl:=Nd.BX hl;have xr:=Nd.BX hr;have sl:=Nd.Ab hl;have sr:=Nd.Ab hr;have hcm:=C0 l.key r.key hl.key hr.key;unfold Nd.enc at fl fr ⊢;obtain⟨L,hL⟩:∃L,L=l.cells:=⟨_,rfl⟩
 obtain⟨R,hR⟩:∃R,R=r.cells:=⟨_,rfl⟩
 obtain⟨KL,hKL⟩:∃KL,KL=AK l.key:=⟨_,rfl⟩
 obtain⟨KR,hKR⟩:∃KR,KR=AK r.key:=⟨_,rfl⟩
 rw[←hL] at fl kl xl sl;rw[←hR] at fr kr xr sr;rw[←hL, ←hR];rw[←hKL] at xl hcm;rw[←hKR] at xr hcm;clear hL hR hKL hKR hl hr;have al:=D8 w L R;have ar:=DT w L R;subst h0;have c0:=AH ar kr;have hkk:((r.kind:Nat):Int)≠2:=by omega
 have e1:(((r.kind:Nat):Int) == 2)=false:=by simpa using hkk
 have e3:(right == 0)=false:=by simpa using h1
 have e4:decide (right=0)=false:=by simpa using h1
 have e2:decide (((r.kind:Nat):Int)=2)=false:=by simpa using hkk
 have SL:=(hIq sl xl)
 have SR:=(hIq sr xr)
 have FL:=Lib.hid fl;have FR:=Lib.hid fr;have AL:=Lib.hid al;have AR:=Lib.hid ar;have CM:=Lib.hid hcm;clear fl fr kl kr xl xr sl sr hcm al ar;go_enter Tryz.func250,Tryz.ntmps250;go_wp2;go_ret;exact⟨rfl,(Eg w _ _)⟩
theorem Rj {l r:Nd} (hl:l.Ok) (hr:r.Ok) (d left right:Int) (hd0:0≤d) (hd1:d≤255) (h0:left=0) (h1:right≠0) (hk:r.kind=2) (w:World) :
 Calls Tryz.prog 250 #[.int .i64 d,.int .i64 left,.int .i64 right,l.enc,r.enc] w fun e w'=>e=.returned (.bool (B7 r d 1))∧Adds w w':=by
 have fl:=C7 hl d 0 hd0 hd1;have fr:=C7 hr d 1 hd0 hd1;have kl:=Nd.Bh hl;have kr:=Nd.Bh hr;have xl:=Nd.BX hl;have xr:=Nd.BX hr;have sl:=Nd.Ab hl;have sr:=Nd.Ab hr;have hcm:=C0 l.key r.key hl.key hr.key;unfold Nd.enc at fl fr ⊢;obtain⟨L,hL⟩:∃L,L=l.cells:=⟨_,rfl⟩
 obtain⟨R,hR⟩:∃R,R=r.cells:=⟨_,rfl⟩
 obtain⟨KL,hKL⟩:∃KL,KL=AK l.key:=⟨_,rfl⟩
 obtain⟨KR,hKR⟩:∃KR,KR=AK r.key:=⟨_,rfl⟩
 rw[←hL] at fl kl xl sl;rw[←hR] at fr kr xr sr;rw[←hL, ←hR];rw[←hKL] at xl hcm;rw[←hKR] at xr hcm;clear hL hR hKL hKR hl hr;have al:=D8 w L R;have ar:=DT w L R;subst h0;rw[hk] at kr;have c0:=AH ar kr;have e3:(right == 0)=false:=by simpa using h1
 have e4:decide (right=0)=false:=by simpa using h1
 generalize B7 r d 1=bb at *;clear hk;have SL:=(hIq sl xl)
 have SR:=(hIq sr xr)
 have FL:=Lib.hid fl;have FR:=Lib.hid fr;have AL:=Lib.hid al;have AR:=Lib.hid ar;have CM:=Lib.hid hcm;clear fl fr kl kr xl xr sl sr hcm al ar;go_enter Tryz.func250,Tryz.ntmps250;go_wp2_with fail;refine Bz 168 _ rfl (w.heap.size+1) 0 rfl AR.out Tryz.underlying168 rfl BV (by rw[SR.out.1];omega) R (by simp[←SR.out.1]) ?_;go_wp2_with fail;refine(FR.out _).mono ?_;rintro e w1 ⟨rfl,hc1⟩;have C1:=Lib.hid hc1;clear hc1;go_wp2;go_ret;exact⟨rfl,(Eg w _ _).trans C1.out (fun _=>fEq)⟩
theorem OM {l r:Nd} (hl:l.Ok) (hr:r.Ok) (d left right:Int) (hd0:0≤d) (hd1:d≤255) (h0:left≠0) (h1:right=0) (hk:l.kind≠2) (w:World) :
 Calls Tryz.prog 250 #[.int .i64 d,.int .i64 left,.int .i64 right,l.enc,r.enc] w fun e w'=>e=.returned (.bool false)∧Adds w w':=by
 have fl:=C7 hl d 0 hd0 hd1;have fr:=C7 hr d 1 hd0 hd1;have kl:=Nd.Bh hl;have kr:=Nd.Bh hr;have xl:=Nd.BX hl;have xr:=Nd.BX hr;have sl:=Nd.Ab hl;have sr:=Nd.Ab hr;have hcm:=C0 l.key r.key hl.key hr.key;unfold Nd.enc at fl fr ⊢;obtain⟨L,hL⟩:∃L,L=l.cells:=⟨_,rfl⟩
 obtain⟨R,hR⟩:∃R,R=r.cells:=⟨_,rfl⟩
 obtain⟨KL,hKL⟩:∃KL,KL=AK l.key:=⟨_,rfl⟩
 obtain⟨KR,hKR⟩:∃KR,KR=AK r.key:=⟨_,rfl⟩
 rw[←hL] at fl kl xl sl;rw[←hR] at fr kr xr sr;rw[←hL, ←hR];rw[←hKL] at xl hcm;rw[←hKR] at xr hcm;clear hL hR hKL hKR hl hr;have al:=D8 w L R;have ar:=DT w L R;subst h1;have c0:=AH al kl;have hkk:((l.kind:Nat):Int)≠2:=by omega
 have e1:(((l.kind:Nat):Int) == 2)=false:=by simpa using hkk
 have e3:(left == 0)=false:=by simpa using h0
 have e4:decide (left=0)=false:=by simpa using h0
 have e2:decide (((l.kind:Nat):Int)=2)=false:=by simpa using hkk
 have SL:=(hIq sl xl)
 have SR:=(hIq sr xr)
 have FL:=Lib.hid fl;have FR:=Lib.hid fr;have AL:=Lib.hid al;have AR:=Lib.hid ar;have CM:=Lib.hid hcm;clear fl fr kl kr xl xr sl sr hcm al ar;go_enter Tryz.func250,Tryz.ntmps250;go_wp2;go_ret;exact⟨rfl,(Eg w _ _)⟩
theorem UJ {l r:Nd} (hl:l.Ok) (hr:r.Ok) (d left right:Int) (hd0:0≤d) (hd1:d≤255) (h0:left≠0) (h1:right=0) (hk:l.kind=2) (w:World) :
 Calls Tryz.prog 250 #[.int .i64 d,.int .i64 left,.int .i64 right,l.enc,r.enc] w fun e w'=>e=.returned (.bool (B7 l d 0))∧Adds w w':=by
 have fl:=C7 hl d 0 hd0 hd1;have fr:=C7 hr d 1 hd0 hd1;have kl:=Nd.Bh hl;have kr:=Nd.Bh hr;have xl:=Nd.BX hl;have xr:=Nd.BX hr;have sl:=Nd.Ab hl;have sr:=Nd.Ab hr;have hcm:=C0 l.key r.key hl.key hr.key;unfold Nd.enc at fl fr ⊢;obtain⟨L,hL⟩:∃L,L=l.cells:=⟨_,rfl⟩
 obtain⟨R,hR⟩:∃R,R=r.cells:=⟨_,rfl⟩
 obtain⟨KL,hKL⟩:∃KL,KL=AK l.key:=⟨_,rfl⟩
 obtain⟨KR,hKR⟩:∃KR,KR=AK r.key:=⟨_,rfl⟩
 rw[←hL] at fl kl xl sl;rw[←hR] at fr kr xr sr;rw[←hL, ←hR];rw[←hKL] at xl hcm;rw[←hKR] at xr hcm;clear hL hR hKL hKR hl hr;have al:=D8 w L R;have ar:=DT w L R;subst h1;rw[hk] at kl;have c0:=AH al kl;have e3:(left == 0)=false:=by simpa using h0
 have e4:decide (left=0)=false:=by simpa using h0
 generalize B7 l d 0=bb at *;clear hk;have SL:=(hIq sl xl)
 have SR:=(hIq sr xr)
 have FL:=Lib.hid fl;have FR:=Lib.hid fr;have AL:=Lib.hid al;have AR:=Lib.hid ar;have CM:=Lib.hid hcm;clear fl fr kl kr xl xr sl sr hcm al ar;go_enter Tryz.func250,Tryz.ntmps250;go_wp2_with fail;refine Bz 168 _ rfl w.heap.size 0 rfl AL.out Tryz.underlying168 rfl BV (by rw[SL.out.1];omega) L (by simp[←SL.out.1]) ?_;go_wp2_with fail;refine(FL.out _).mono ?_;rintro e w1 ⟨rfl,hc1⟩;have C1:=Lib.hid hc1;clear hc1;go_wp2;go_ret;exact⟨rfl,(Eg w _ _).trans C1.out (fun _=>fEq)⟩
theorem O2 {l r:Nd} (hl:l.Ok) (hr:r.Ok) (d left right:Int) (hd0:0≤d) (hd1:d≤255) (h0:left≠0) (h1:right≠0) (hk:B7 l d 0=false) (w:World) :
 Calls Tryz.prog 250 #[.int .i64 d,.int .i64 left,.int .i64 right,l.enc,r.enc] w fun e w'=>e=.returned (.bool false)∧Adds w w':=by
 have fl:=C7 hl d 0 hd0 hd1;have fr:=C7 hr d 1 hd0 hd1;have kl:=Nd.Bh hl;have kr:=Nd.Bh hr;have xl:=Nd.BX hl;have xr:=Nd.BX hr;have sl:=Nd.Ab hl;have sr:=Nd.Ab hr;have hcm:=C0 l.key r.key hl.key hr.key;unfold Nd.enc at fl fr ⊢;obtain⟨L,hL⟩:∃L,L=l.cells:=⟨_,rfl⟩
 obtain⟨R,hR⟩:∃R,R=r.cells:=⟨_,rfl⟩
 obtain⟨KL,hKL⟩:∃KL,KL=AK l.key:=⟨_,rfl⟩
 obtain⟨KR,hKR⟩:∃KR,KR=AK r.key:=⟨_,rfl⟩
 rw[←hL] at fl kl xl sl;rw[←hR] at fr kr xr sr;rw[←hL, ←hR];rw[←hKL] at xl hcm;rw[←hKR] at xr hcm;clear hL hR hKL hKR hl hr;have al:=D8 w L R;have ar:=DT w L R;have e3:(left == 0)=false:=by simpa using h0
 have e4:decide (left=0)=false:=by simpa using h0
 have e5:(right == 0)=false:=by simpa using h1
 have e6:decide (right=0)=false:=by simpa using h1
 rw[hk] at fl;clear hk;have SL:=(hIq sl xl)
 have SR:=(hIq sr xr)
 have FL:=Lib.hid fl;have FR:=Lib.hid fr;have AL:=Lib.hid al;have AR:=Lib.hid ar;have CM:=Lib.hid hcm;clear fl fr kl kr xl xr sl sr hcm al ar;go_enter Tryz.func250,Tryz.ntmps250;go_wp2_with fail;refine Bz 168 _ rfl w.heap.size 0 rfl AL.out Tryz.underlying168 rfl BV (by rw[SL.out.1];omega) L (by simp[←SL.out.1]) ?_;go_wp2_with fail;refine(FL.out _).mono ?_;rintro e w1 ⟨rfl,hc1⟩;have al1:=hc1.row AL.out id;have ar1:=hc1.row AR.out id;have hw1:=(Eg w _ _).trans hc1 (fun _=>fEq);have AL1:=Lib.hid al1;have AR1:=Lib.hid ar1;have W1:=Lib.hid hw1;clear hc1 al1 ar1 hw1;go_wp2;go_ret;exact⟨rfl,W1.out⟩
theorem PX {l r:Nd} (hl:l.Ok) (hr:r.Ok) (d left right:Int) (hd0:0≤d) (hd1:d≤255) (h0:left≠0) (h1:right≠0) (hk:B7 l d 0=true) (hm:B7 r d 1=false) (w:World) :
 Calls Tryz.prog 250 #[.int .i64 d,.int .i64 left,.int .i64 right,l.enc,r.enc] w fun e w'=>e=.returned (.bool false)∧Adds w w':=by
 have fl:=C7 hl d 0 hd0 hd1;have fr:=C7 hr d 1 hd0 hd1;have kl:=Nd.Bh hl;have kr:=Nd.Bh hr;have xl:=Nd.BX hl;have xr:=Nd.BX hr;have sl:=Nd.Ab hl;have sr:=Nd.Ab hr;have hcm:=C0 l.key r.key hl.key hr.key;unfold Nd.enc at fl fr ⊢;obtain⟨L,hL⟩:∃L,L=l.cells:=⟨_,rfl⟩
 obtain⟨R,hR⟩:∃R,R=r.cells:=⟨_,rfl⟩
 obtain⟨KL,hKL⟩:∃KL,KL=AK l.key:=⟨_,rfl⟩
 obtain⟨KR,hKR⟩:∃KR,KR=AK r.key:=⟨_,rfl⟩
 rw[←hL] at fl kl xl sl;rw[←hR] at fr kr xr sr;rw[←hL, ←hR];rw[←hKL] at xl hcm;rw[←hKR] at xr hcm;clear hL hR hKL hKR hl hr;have al:=D8 w L R;have ar:=DT w L R;have e3:(left == 0)=false:=by simpa using h0
 have e4:decide (left=0)=false:=by simpa using h0
 have e5:(right == 0)=false:=by simpa using h1
 have e6:decide (right=0)=false:=by simpa using h1
 rw[hk] at fl;rw[hm] at fr;clear hk hm;have SL:=(hIq sl xl)
 have SR:=(hIq sr xr)
 have FL:=Lib.hid fl;have FR:=Lib.hid fr;have AL:=Lib.hid al;have AR:=Lib.hid ar;have CM:=Lib.hid hcm;clear fl fr kl kr xl xr sl sr hcm al ar;go_enter Tryz.func250,Tryz.ntmps250;go_wp2_with fail;refine Bz 168 _ rfl w.heap.size 0 rfl AL.out Tryz.underlying168 rfl BV (by rw[SL.out.1];omega) L (by simp[←SL.out.1]) ?_;go_wp2_with fail;refine(FL.out _).mono ?_;rintro e w1 ⟨rfl,hc1⟩;have al1:=hc1.row AL.out id;have ar1:=hc1.row AR.out id;have hw1:=(Eg w _ _).trans hc1 (fun _=>fEq);have AL1:=Lib.hid al1;have AR1:=Lib.hid ar1;have W1:=Lib.hid hw1;clear hc1 al1 ar1 hw1;go_wp2_with fail;refine Bz 168 _ rfl (w.heap.size+1) 0 rfl AR1.out Tryz.underlying168 rfl BV (by rw[SR.out.1];omega) R (by simp[←SR.out.1]) ?_;go_wp2_with fail;refine(FR.out _).mono ?_;rintro e w2 ⟨rfl,hc2⟩;have al2:=hc2.row AL1.out id;have ar2:=hc2.row AR1.out id;have hw2:=W1.out.trans hc2 (fun _=>fEq);have AL2:=Lib.hid al2;have AR2:=Lib.hid ar2;have W2:=Lib.hid hw2;clear hc2 al2 ar2 hw2;go_wp2;go_ret;exact⟨rfl,W2.out⟩
theorem UR {l r:Nd} (hl:l.Ok) (hr:r.Ok) (d left right:Int) (hd0:0≤d) (hd1:d≤255) (h0:left≠0) (h1:right≠0) (hk:B7 l d 0=true) (hm:B7 r d 1=true) (w:World) :
 Calls Tryz.prog 250 #[.int .i64 d,.int .i64 left,.int .i64 right,l.enc,r.enc] w fun e w'=>e=.returned (.bool (decide (d≤(common l.key r.key:Nat))))∧Adds w w':=by
 have fl:=C7 hl d 0 hd0 hd1;have fr:=C7 hr d 1 hd0 hd1;have kl:=Nd.Bh hl;have kr:=Nd.Bh hr;have xl:=Nd.BX hl;have xr:=Nd.BX hr;have sl:=Nd.Ab hl;have sr:=Nd.Ab hr;have hcm:=C0 l.key r.key hl.key hr.key;unfold Nd.enc at fl fr ⊢;obtain⟨L,hL⟩:∃L,L=l.cells:=⟨_,rfl⟩
 obtain⟨R,hR⟩:∃R,R=r.cells:=⟨_,rfl⟩
 obtain⟨KL,hKL⟩:∃KL,KL=AK l.key:=⟨_,rfl⟩
 obtain⟨KR,hKR⟩:∃KR,KR=AK r.key:=⟨_,rfl⟩
 rw[←hL] at fl kl xl sl;rw[←hR] at fr kr xr sr;rw[←hL, ←hR];rw[←hKL] at xl hcm;rw[←hKR] at xr hcm;clear hL hR hKL hKR hl hr;have al:=D8 w L R;have ar:=DT w L R;have e3:(left == 0)=false:=by simpa using h0
 have e4:decide (left=0)=false:=by simpa using h0
 have e5:(right == 0)=false:=by simpa using h1
 have e6:decide (right=0)=false:=by simpa using h1
 rw[hk] at fl;rw[hm] at fr;clear hk hm;generalize common l.key r.key=cc at *;have SL:=(hIq sl xl)
 have SR:=(hIq sr xr)
 have FL:=Lib.hid fl;have FR:=Lib.hid fr;have AL:=Lib.hid al;have AR:=Lib.hid ar;have CM:=Lib.hid hcm;clear fl fr kl kr xl xr sl sr hcm al ar;go_enter Tryz.func250,Tryz.ntmps250;go_wp2_with fail;refine Bz 168 _ rfl w.heap.size 0 rfl AL.out Tryz.underlying168 rfl BV (by rw[SL.out.1];omega) L (by simp[←SL.out.1]) ?_;go_wp2_with fail;refine(FL.out _).mono ?_;rintro e w1 ⟨rfl,hc1⟩;have al1:=hc1.row AL.out id;have ar1:=hc1.row AR.out id;have hw1:=(Eg w _ _).trans hc1 (fun _=>fEq);have AL1:=Lib.hid al1;have AR1:=Lib.hid ar1;have W1:=Lib.hid hw1;clear hc1 al1 ar1 hw1;go_wp2_with fail;refine Bz 168 _ rfl (w.heap.size+1) 0 rfl AR1.out Tryz.underlying168 rfl BV (by rw[SR.out.1];omega) R (by simp[←SR.out.1]) ?_;go_wp2_with fail;refine(FR.out _).mono ?_;rintro e w2 ⟨rfl,hc2⟩;have al2:=hc2.row AL1.out id;have ar2:=hc2.row AR1.out id;have hw2:=W1.out.trans hc2 (fun _=>fEq);have AL2:=Lib.hid al2;have AR2:=Lib.hid ar2;have W2:=Lib.hid hw2;clear hc2 al2 ar2 hw2
 go_wp2_with (first
  | ((with_reducible show zOq (.load 47 _));refine Ba (by first|rfl|(simp[Region.wanted];done)) 47 _ rfl w.heap.size 34 rfl AL2.out Tryz.underlying47 rfl AY (by rw[SL.out.1];omega) KL SL.out.2 ?_)
  | ((with_reducible show zOq (.load 47 _));refine Ba (by first|rfl|(simp[Region.wanted];done)) 47 _ rfl (w.heap.size+1) 34 rfl AR2.out Tryz.underlying47 rfl AY (by rw[SR.out.1];omega) KR SR.out.2 ?_))
 refine(CM.out _).mono ?_;rintro e w3 ⟨rfl,hc3⟩;have hw3:=W2.out.trans hc3 (fun _=>fEq);have W3:=Lib.hid hw3;clear hc3 hw3;go_wp2;go_ret;exact⟨rfl,W3.out⟩
end Go.Proofs.YtngbdbpofifimaaGreat.Store
