/- Laws of the layers below. -/
import Derived.Test.YtooijgcildbnlaaGreatQg23
set_option maxHeartbeats 3200000
set_option maxRecDepth 100000
set_option linter.unusedVariables false
namespace Go.Proofs.YtooijgcildbnlaaGreat.Store
open Go.RowKit Go.Proofs.YtooijgcildbnlaaGreat.ShaW Go.Proofs.YtooijgcildbnlaaGreat.Path
section
variable {w w' : World} {b : Nat} {F : Nat→Prop} {ρ : Rs} {σ : AD Nd}
theorem JH (L:Lk σ ρ) (hw:σ.WF (fun _=>True)):ρ.Fa=true↔σ.used=σ.room:=by rw[L.full hw];exact decide_eq_true_iff
theorem P6 (h:RAt w b F ρ) (L:Lk σ ρ) (G:Good σ) (d l r:Int) (hb:(Af σ d l r).2.1≠0) :
 Calls Tryz.prog 177 #[.pointer (some ⟨b,0,none⟩),.int .i64 d,.int .i64 l,.int .i64 r] w fun e w'=>e=.returned (.tuple #[.int .i64 (Af σ d l r).1,.int .i64 (Af σ d l r).2.1])∧Adds w w'∧(Af σ d l r).2.2=σ:=by
 have hno:=Cl h;unfold Af at hb ⊢;by_cases hd:d<0∨255<d
 · rw[if_pos hd] at hb ⊢
   have HNO:=Lib.hid hno;clear hno hb;by_cases h0:d<0
   · clear hd
     go_enter Tryz.func177,Tryz.ntmps177;go_wp2_with fail;refine HNO.out.mono ?_;rintro e w1 ⟨rfl,rfl⟩;go_wp2;go_ret2;exact⟨rfl,Ch.refl _ _,trivial⟩
   have h1:255<d:=hd.resolve_left h0;have h2:256≤d:=by omega
   have h3:0≤d:=by omega
   clear hd;go_enter Tryz.func177,Tryz.ntmps177;go_wp2_with fail;refine HNO.out.mono ?_;rintro e w1 ⟨rfl,rfl⟩;go_wp2;go_ret2;exact⟨rfl,Ch.refl _ _,trivial⟩
 rw[if_neg hd] at hb ⊢;have h0:¬d<0:=fun e=>hd (.inl e)
 have h1:¬256≤d:=fun e=>hd (.inr (by omega))
 have hol:=fun w1 (a:Adds w w1)=>Js (h.adds a) l
 have hor:=fun w1 (a:Adds w w1)=>Js (h.adds a) r
 rw[L.Oa G] at hol hor;by_cases hsl:Bp σ l
 · rw[if_pos (.inl hsl)] at hb ⊢
   rw[decide_eq_true hsl,Bool.not_true] at hol;have HNO:=Lib.hid hno;have HOL:=Lib.hid hol;clear hno hol hor hb hsl hd;go_enter Tryz.func177,Tryz.ntmps177;go_wp2_with fail;refine HNO.out.mono ?_;rintro e w1 ⟨rfl,rfl⟩;go_wp2_with fail;refine(HOL.out _ (Ch.refl _ _)).mono ?_;rintro e w2 ⟨rfl,a2⟩;have A2:=Lib.hid a2;clear a2;go_wp2;go_ret2;exact⟨rfl,A2.out,trivial⟩
 rw[decide_eq_false hsl,Bool.not_false] at hol;by_cases hsr:Bp σ r
 · rw[if_pos (.inr hsr)] at hb ⊢
   rw[decide_eq_true hsr,Bool.not_true] at hor;have HNO:=Lib.hid hno;have HOL:=Lib.hid hol;have HOR:=Lib.hid hor;clear hno hol hor hb hsl hsr hd;go_enter Tryz.func177,Tryz.ntmps177;go_wp2_with fail;refine HNO.out.mono ?_;rintro e w1 ⟨rfl,rfl⟩;go_wp2_with fail;refine(HOL.out _ (Ch.refl _ _)).mono ?_;rintro e w2 ⟨rfl,a2⟩;have A2:=Lib.hid a2;clear a2;go_wp2_with fail;refine(HOR.out _ A2.out).mono ?_;rintro e w3 ⟨rfl,a3⟩;have A3:=Lib.hid (A2.out.trans a3 (fun _=>fEq));clear a3;go_wp2;go_ret2;exact⟨rfl,A3.out,trivial⟩
 rw[decide_eq_false hsr,Bool.not_false] at hor;rw[if_neg (fun e=>e.elim hsl hsr)] at hb ⊢
 have hasl:l=0∨Store.has σ l=true:=by
  by_cases e:l=0
  · exact .inl e
  right;by_cases e2:Store.has σ l=true
  · exact e2
  exact absurd ⟨e,.inl (by simpa using e2)⟩ hsl
 have hasr:r=0∨Store.has σ r=true:=by
  by_cases e:r=0
  · exact .inl e
  right;by_cases e2:Store.has σ r=true
  · exact e2
  exact absurd ⟨e,.inl (by simpa using e2)⟩ hsr
 obtain⟨dn,rfl⟩:=Int.eq_ofNat_of_zero_le (show 0≤d by omega);have hft:=fun w1 (a:Adds w w1)=>Om (h.adds a) L G (d:=dn) (by omega) hasl hasr
 by_cases hf:fitsB (dn:Int) l r (nd σ l) (nd σ r)=false
 · rw[if_pos hf] at hb ⊢
   simp only[hf] at hft;have HNO:=Lib.hid hno;have HOL:=Lib.hid hol;have HOR:=Lib.hid hor;have HFT:=Lib.hid hft;clear hno hol hor hft hb hsl hsr hd hf hasl hasr;go_enter Tryz.func177,Tryz.ntmps177;go_wp2_with fail;refine HNO.out.mono ?_;rintro e w1 ⟨rfl,rfl⟩;go_wp2_with fail;refine(HOL.out _ (Ch.refl _ _)).mono ?_;rintro e w2 ⟨rfl,a2⟩;have A2:=Lib.hid a2;clear a2;go_wp2_with fail;refine(HOR.out _ A2.out).mono ?_;rintro e w3 ⟨rfl,a3⟩;have A3:=Lib.hid (A2.out.trans a3 (fun _=>fEq));clear a3;go_wp2_with fail;refine(HFT.out _ A3.out).mono ?_;rintro e w4 ⟨rfl,a4⟩;have A4:=Lib.hid (A3.out.trans a4 (fun _=>fEq));clear a4;go_wp2;go_ret2;exact⟨rfl,A4.out,trivial⟩
 rw[if_neg hf] at hb ⊢;have hf1:fitsB (dn:Int) l r (nd σ l) (nd σ r)=true:=by simpa using hf
 simp only[hf1] at hft
 have hu:σ.used=σ.room:=by
  by_cases e:σ.used=σ.room
  · exact e
  exfalso;unfold AD.take at hb;rw[if_neg e] at hb
  revert hb
  cases σ.free.getLast?<;>simp
 have ht:σ.take (Bc σ (dn:Int) l r)=(0,9,σ):=by unfold AD.take;rw[if_pos hu]
 rw[ht] at hb ⊢;rw[if_pos (by simp)] at hb ⊢;have hfu:=fun w1 (a:Adds w w1)=>Ik (h.adds a)
 rw[(JH L G.sound.wf).2 hu] at hfu;have HNO:=Lib.hid hno;have HOL:=Lib.hid hol;have HOR:=Lib.hid hor;have HFT:=Lib.hid hft;have HFU:=Lib.hid hfu;clear hno hol hor hft hfu hb hsl hsr hd hf hf1 hasl hasr hu ht;go_enter Tryz.func177,Tryz.ntmps177;go_wp2_with fail;refine HNO.out.mono ?_;rintro e w1 ⟨rfl,rfl⟩;go_wp2_with fail;refine(HOL.out _ (Ch.refl _ _)).mono ?_;rintro e w2 ⟨rfl,a2⟩;have A2:=Lib.hid a2;clear a2;go_wp2_with fail;refine(HOR.out _ A2.out).mono ?_;rintro e w3 ⟨rfl,a3⟩;have A3:=Lib.hid (A2.out.trans a3 (fun _=>fEq));clear a3;go_wp2_with fail;refine(HFT.out _ A3.out).mono ?_;rintro e w4 ⟨rfl,a4⟩;have A4:=Lib.hid (A3.out.trans a4 (fun _=>fEq));clear a4;go_wp2_with fail;refine(HFU.out _ A4.out).mono ?_;rintro e w5 ⟨rfl,a5⟩;have A5:=Lib.hid (A4.out.trans a5 (fun _=>fEq));clear a5;go_wp2;go_ret2;exact⟨rfl,A5.out,trivial⟩
end
theorem IZ {P:Program} {w:World} {ops:Array Oper} {rest:List Oper} {o:Oper} {a:Act} {Q:Exit→Act→World→Prop} (hgd:o.guard=none) (t i j k m:Nat) (x y z u:Operand) (ho:o.op=.build t #[(i,x),(j,y),(k,z),(m,u)])
 (vx vy vz vu:Value) (hx:a.eval x=vx) (hy:a.eval y=vy) (hz:a.eval z=vz) (hu:a.eval u=vu) (cells:Array Value) (hf:P.built t [(i,vx),(j,vy),(k,vz),(m,vu)]=some cells) (h:wpList P ops Q rest (a.put o.dst (.agg cells)) w):wpList P ops Q (o::rest) a w :=
 wpList_build_is hgd t #[(i,x),(j,y),(k,z),(m,u)] ho cells (by simpa[hx,hy,hz,hu] using hf) h
section
variable {w w' : World} {b : Nat} {F : Nat→Prop} {ρ : Rs} {σ : AD Nd}
theorem RMoved.no {G:Nat→Prop} (h:RMoved w w' b G ρ) (hg:∀j,G j↔F j):RMoved w w' b F ρ:=by
 obtain⟨F',h1,h2,h3⟩:=h;exact⟨F',h1,h2.mono (fun j _ hj=>(hg j).1 hj),fun k hk=>(h3 k hk).imp (hg k).1 id⟩
theorem OE (h:RAt w b F ρ) (L:Lk σ ρ) (G:Good σ) {d:Nat} (hd:d≤255) {l r:Int} (hsl:¬Bp σ l) (hsr:¬Bp σ r) (hf:fitsB (d:Int) l r (nd σ l) (nd σ r)=true) (hu:σ.used≠σ.room) :
 Calls Tryz.prog 177 #[.pointer (some ⟨b,0,none⟩),.int .i64 (d:Int),.int .i64 l,.int .i64 r] w fun e w'=>e=.returned (.tuple #[.int .i64 (σ.take (Bc σ (d:Int) l r)).1,.int .i64 0]) ∧
  ∃ρ',Lk (bump (bump (σ.take (Bc σ (d:Int) l r)).2.2 l (-1)) r (-1)) ρ'∧RMoved w w' b F ρ':=by
 have hno:=Cl h;have hol:=fun w1 (a:Adds w w1)=>Js (h.adds a) l
 have hor:=fun w1 (a:Adds w w1)=>Js (h.adds a) r
 rw[L.Oa G,decide_eq_false hsl,Bool.not_false] at hol;rw[L.Oa G,decide_eq_false hsr,Bool.not_false] at hor
 have has_of:∀ {n:Int},¬Bp σ n→(n=0∨Store.has σ n=true):=fun {n} hn=>by
  by_cases e:n=0
  · exact .inl e
  right;by_cases e2:Store.has σ n=true
  · exact e2
  exact absurd ⟨e,.inl (by simpa using e2)⟩ hn
 have hft:=fun w1 (a:Adds w w1)=>Om (h.adds a) L G hd (has_of hsl) (has_of hsr)
 simp only[hf] at hft;have hfu:=fun w1 (a:Adds w w1)=>Ik (h.adds a)
 have hfl:ρ.Fa=false:=by
  cases e:ρ.Fa
  · rfl
  exact absurd ((JH L G.sound.wf).1 e) hu
 rw[hfl] at hfu;have sl:=ET.of G.sound hsl;have sr:=ET.of G.sound hsr;obtain⟨wf1,us1,rm1⟩:=sl.wf G.sound.wf (-1);have sr1:=sr.bump sl (Pg hf) (-1);obtain⟨wf2,us2,rm2⟩:=sr1.wf wf1 (-1);have hu1:(Store.bump σ l (-1)).used≠(Store.bump σ l (-1)).room:=by rw[us1,rm1];exact hu
 have hu2:(Store.bump (Store.bump σ l (-1)) r (-1)).used≠(Store.bump (Store.bump σ l (-1)) r (-1)).room:=by rw[us2,rm2];exact hu1
 obtain⟨n,hn⟩:∃n,n=Bc σ (d:Int) l r:=⟨_,rfl⟩
 have t1:=Le G.sound.wf hu n sl (-1);have t2:=Le wf1 hu1 n sr1 (-1);rw[t1] at t2;rw[←hn]
 have hspof:Q0 (n,1) (Sp.inner (d:Int) l r).held:=by
  rw[hn];exact .inr ⟨by simp,rfl,rfl,rfl,rfl,fun h=>(by cases h),fun _=>rfl,rfl,rfl⟩
 obtain⟨X,hX⟩:∃X,X=Sp.inner (d:Int) l r:=⟨_,rfl⟩
 have hbt:=KW (d:Int) l r;rw[←hX] at hbt hspof
 have hXo:X.Ok∧(0≤X.sides∧X.sides≤2147483648)∧X.addr=.slice none 0 0∧X.value = []:=by
  rw[hX];exact⟨⟨rfl,⟨_,_,_,rfl⟩,by show(0:Nat)≤_;omega⟩,⟨Int.le_refl 0,by show(0:Int)≤_;omega⟩,rfl,rfl⟩
 have HNO:=Lib.hid hno;have HOL:=Lib.hid hol;have HOR:=Lib.hid hor;have HFT:=Lib.hid hft;have HFU:=Lib.hid hfu;have HOV:=Lib.hid (fun w1 (a:Adds w w1)=>Ki (h.adds a) L sl);have HS:=(hIq sr1 (aIq wf2 (aIq hu2 (aIq t2 (aIq hspof hXo)))))
 obtain⟨N,hN⟩:∃N,N=X.cells:=⟨_,rfl⟩
 rw[←hN] at hbt;have HB:=(hIq hbt hN)
 clear hno hol hor hft hfu hsl hsr hf hu has_of hfl sl sr wf1 us1 rm1 sr1 wf2 us2 rm2 hu1 hu2 hn t1 t2 hspof hX hbt hXo hN h L G;have e0:¬(d:Int)<0:=by omega
 have e1:¬256≤(d:Int):=by omega
 go_enter Tryz.func177,Tryz.ntmps177;go_wp2_with fail;refine HNO.out.mono ?_;rintro e w1 ⟨rfl,rfl⟩;go_wp2_with fail;refine(HOL.out _ (Ch.refl _ _)).mono ?_;rintro e w2 ⟨rfl,a2⟩;have A2:=Lib.hid a2;clear a2;go_wp2_with fail;refine(HOR.out _ A2.out).mono ?_;rintro e w3 ⟨rfl,a3⟩;have A3:=Lib.hid (A2.out.trans a3 (fun _=>fEq));clear a3;go_wp2_with fail;refine(HFT.out _ A3.out).mono ?_;rintro e w4 ⟨rfl,a4⟩;have A4:=Lib.hid (A3.out.trans a4 (fun _=>fEq));clear a4;go_wp2_with fail;refine(HFU.out _ A4.out).mono ?_;rintro e w5 ⟨rfl,a5⟩;have A5:=Lib.hid (A4.out.trans a5 (fun _=>fEq));clear a5;go_wp2_with fail;refine(HOV.out _ A5.out).mono ?_;rintro e w6 ⟨rfl,hm1,L1⟩;have M1:=(hIq hm1 L1)
 clear hm1 L1;obtain⟨F1,r1,m1⟩:=M1.out.1;have R1:=(hIq r1 m1)
 clear r1 m1;go_wp2_with fail;refine(Ki R1.out.1 M1.out.2 HS.out.1).mono ?_;rintro e w7 ⟨rfl,hm2,L2⟩;have M2:=(hIq hm2 L2)
 clear hm2 L2;obtain⟨F2,r2,m2⟩:=M2.out.1;have R2:=(hIq r2 m2)
 clear r2 m2
 have hfu2:((ρ.Gi l).Gi r).Fa=false:=by
  cases e:((ρ.Gi l).Gi r).Fa
  · rfl
  exact absurd ((JH M2.out.2 HS.out.2.1).1 e) HS.out.2.2.1
 have htk:=Oi R2.out.1 X HS.out.2.2.2.2.2.1 HS.out.2.2.2.2.2.2.1 (by rw[HS.out.2.2.2.2.2.2.2.1,HS.out.2.2.2.2.2.2.2.2];exact Bytes.nil _) (fun k hk=>by rw[HS.out.2.2.2.2.2.2.2.1] at hk;cases hk) hfu2;rw[←HB.out.2] at htk;have HT:=Lib.hid htk;clear htk hfu2
 go_wp2_with (first
  | fail
  | ((with_reducible show zOq (.build 254 _));refine IZ rfl 254 0 1 3 4 (.const (.int .u8 2)) (.tmp 43) (.tmp 44) (.tmp 45) rfl (.int .u8 2) (.int .i64 (d:Int)) (.int .i64 l) (.int .i64 r) rfl rfl rfl rfl _ HB.out.1 ?_))
 refine HT.out.mono ?_;rintro e w8 ⟨rfl,hm3⟩;have M3:=Lib.hid hm3;clear hm3;go_wp2;go_ret2;obtain⟨q1,q2,q3⟩:=M2.out.2.take HS.out.2.1 HS.out.2.2.2.2.1 HS.out.2.2.1;rw[HS.out.2.2.2.1] at q1 q3;refine⟨by rw[q1];rfl,_,q3,?_⟩;have hm3:=M3.out.no (F:=F2) (fun j=>⟨fun h=>h.elim id (fun h=>by rw[HS.out.2.2.2.2.2.2.2.1] at h;cases h),.inl⟩);refine RMoved.from A5.out ?_;obtain⟨F3,z1,z2,z3⟩:=hm3;obtain⟨x1,x2⟩:=R1.out.2;obtain⟨y1,y2⟩:=R2.out.2;have c1:=x1.trans y1 x2;have f2:∀k,F2 k→F k∨w5.heap.size≤k:=fun k hk=>(y2 k hk).elim (x2 k) (fun h=>.inr (Nat.le_trans x1.size h))
 have c2:=c1.trans z2 f2;exact⟨F3,z1,c2,fun k hk=>(z3 k hk).elim (f2 k) (fun h=>.inr (Nat.le_trans c1.size h))⟩
theorem RM (h:RAt w b F ρ) (L:Lk σ ρ) (G:Good σ) (d l r:Int) :
 Calls Tryz.prog 177 #[.pointer (some ⟨b,0,none⟩),.int .i64 d,.int .i64 l,.int .i64 r] w fun e w'=>e=.returned (.tuple #[.int .i64 (Af σ d l r).1,.int .i64 (Af σ d l r).2.1])∧∃ρ',Lk (Af σ d l r).2.2 ρ'∧RMoved w w' b F ρ':=by
 by_cases hb:(Af σ d l r).2.1=0
 · unfold Af at hb ⊢
   by_cases hd:d<0∨255<d
   · rw[if_pos hd] at hb;cases hb
   rw[if_neg hd] at hb ⊢;by_cases hs:Bp σ l∨Bp σ r
   · rw[if_pos hs] at hb;cases hb
   rw[if_neg hs] at hb ⊢;by_cases hf:fitsB d l r (nd σ l) (nd σ r)=false
   · rw[if_pos hf] at hb;cases hb
   rw[if_neg hf] at hb ⊢
   have hu:σ.used≠σ.room:=fun e=>by
    unfold AD.take at hb;rw[if_pos e] at hb;rw[if_pos (by simp)] at hb;cases hb
   have ht:(σ.take (Bc σ d l r)).2.1=0:=by
    unfold AD.take;rw[if_neg hu];split<;>rfl
   rw[if_neg (by rw[ht];simp)];obtain⟨dn,rfl⟩:=Int.eq_ofNat_of_zero_le (show 0≤d by omega);exact OE h L G (by omega) (fun e=>hs (.inl e)) (fun e=>hs (.inr e)) (by simpa using hf) hu
 refine(P6 h L G d l r hb).mono ?_;rintro e w' ⟨he,ha,hs⟩;rw[hs];exact⟨he,ρ,L,RMoved.same h ha⟩
end
theorem Jc (n:Nd) (st rest:List Int):pile n (st++rest)=pile n st++rest:=by simp[Store.pile,List.append_assoc]
theorem Mv (σ:AD Nd) (st:List Int) (f:Nat) (rest:List Int):sweep σ (st++rest) f=sweep (sweep σ st f).2 rest (sweep σ st f).1:=by
 induction σ,st,f using sweep.induct with
 | case1 σ f=>rw[CK];rfl
 | case2 σ f h st hd ih =>
  rw[CG hd,List.cons_append,CG hd,Jc];exact ih
 | case3 σ f h st hd ih =>
  have hd:(σ.drop Nd.zero h).1=false:=by simpa using hd
  rw[CB hd,List.cons_append,CB hd];exact ih
theorem OU (σ:AD Nd) (st:List Int) (f:Nat):∀k,sweep σ st (f+k)=((sweep σ st f).1+k,(sweep σ st f).2):=by
 induction σ,st,f using sweep.induct with
 | case1 σ f=>intro k;rw[CK,CK]
 | case2 σ f h st hd ih =>
  intro k;rw[CG hd,CG hd,show f+k+1=f+1+k by omega];exact ih k
 | case3 σ f h st hd ih =>
  intro k;have hd:(σ.drop Nd.zero h).1=false:=by simpa using hd
  rw[CB hd,CB hd];exact ih k
theorem Ks (σ:AD Nd) (st:List Int) (k:Nat):sweep σ st k=((sweep σ st 0).1+k,(sweep σ st 0).2):=by
 have:=OU σ st 0 k
 rwa [Nat.zero_add] at this
theorem Kn (σ:AD Nd) (st:List Int) (f:Nat):∀rest,Sound σ (st++rest)→Sound (sweep σ st f).2 rest∧(sweep σ st f).1+live (sweep σ st f).2=f+live σ∧total (sweep σ st f).2≤total σ∧(∀k y,(sweep σ st f).2.get? k=some y→∃c,σ.get? k=some (y.1,c)):=by
 induction σ,st,f using sweep.induct with
 | case1 σ f=>intro rest hs;rw[CK];exact⟨hs,rfl,Nat.le_refl _,fun k y hy=>⟨y.2,hy⟩⟩
 | case2 σ f h st hd ih =>
  intro rest hs;rw[CG hd];have h1:=Sound.dropped (rest:=st++rest) hs;rw[if_pos hd,Jc] at h1;obtain⟨q1,q2,q3,q4⟩:=ih rest h1;have h2:=Gs hd;obtain⟨x,hx,_⟩:=Ex hd;have h3:=Cu hx;exact⟨q1,by omega,by omega,fun k y hy=>by obtain⟨c,hc⟩:=q4 k y hy;exact IM (y:=(y.1,c)) hc⟩
 | case3 σ f h st hd ih =>
  intro rest hs;have hd:(σ.drop Nd.zero h).1=false:=by simpa using hd
  rw[CB hd];have h1:=Sound.dropped (rest:=st++rest) hs;rw[if_neg (by rw[hd];simp)] at h1;obtain⟨q1,q2,q3,q4⟩:=ih rest h1;have h2:=Gx hd;obtain⟨x,hx⟩:=hs.pile h (List.mem_cons_self ..);have h3:=Cu hx;exact⟨q1,by omega,by omega,fun k y hy=>by obtain⟨c,hc⟩:=q4 k y hy;exact IM (y:=(y.1,c)) hc⟩
structure LkD (σ:AD Nd) (ρ:Rs) (m:Nat) (s:Nd×Nat) (x:Sp):Prop where
 space:ρ.space=σ.room
 free:ρ.free=σ.free
 len:ρ.spots.length=σ.slots.length
 hs:σ.slots[m]?=some s
 hx:ρ.spots[m]?=some x
 live:s.2≠0
 fits:x.kind=s.1.kind∧x.left=s.1.left∧x.right=s.1.right∧x.value=s.1.value∧(s.1.kind=1→x.key=s.1.key)∧(s.1.kind=2→x.d=s.1.depth)∧x.own=s.1.held∧x.own+x.sides+1=(s.2:Int)
 slot:∀(j:Nat) t y,j≠m→σ.slots[j]?=some t→ρ.spots[j]?=some y→Q0 t y
section
variable {ρ : Rs} {σ : AD Nd} {m : Nat} {s : Nd×Nat} {x : Sp}
theorem LkD.get (L:LkD σ ρ m s x):σ.get? ((m:Int)+1)=some s:=AD.IU L.hs L.live
theorem LkD.Am (L:LkD σ ρ m s x) (h:s.2≠1):(σ.drop Nd.zero ((m:Int)+1)).1=false∧Lk (σ.drop Nd.zero ((m:Int)+1)).2.2 ρ:=by
 have hd:σ.drop Nd.zero ((m:Int)+1)=(false,0,σ.setAt ((m:Int)+1) (s.1,s.2-1)):=by unfold AD.drop;rw[L.get];simp only[if_neg h]
 rw[hd];refine⟨rfl,?_⟩;have hm:=(List.getElem?_eq_some_iff.1 L.hs).1;simp only[AD.setAt,show((m:Int)+1-1).toNat=m by omega];refine⟨L.space,L.free,by simp[L.len],fun j t y ht hy=>?_⟩;simp only at ht;by_cases e:j=m
 · subst e
   rw[List.getElem?_set_self hm] at ht;rw[L.hx] at hy;cases ht;cases hy;obtain⟨a1,a2,a3,a4,a5,a6,a7,a8⟩:=L.fits;have:=L.live;exact .inr ⟨by show s.2-1≠0;omega,a1,a2,a3,a4,a5,a6,a7,by show x.own+x.sides=((s.2-1:Nat):Int);omega⟩
 rw[List.getElem?_set_ne (Ne.symm e)] at ht;exact L.slot j t y e ht hy
def Rs.freed (ρ:Rs) (m:Nat):Rs := { ρ with spots:=ρ.spots.set m Sp.zero,free:=ρ.free ++ [m+1] }
theorem LkD.go (L:LkD σ ρ m s x) (h:s.2=1):(σ.drop Nd.zero ((m:Int)+1)).1=true∧Lk (σ.drop Nd.zero ((m:Int)+1)).2.2 (ρ.freed m):=by
 have hd:σ.drop Nd.zero ((m:Int)+1)=(true,0, { σ.setAt ((m:Int)+1) (Nd.zero,0) with free:=σ.free ++ [((m:Int)+1).toNat] }):=by unfold AD.drop;rw[L.get];simp only[if_pos h]
 rw[hd];refine⟨rfl,?_⟩;have hm:=(List.getElem?_eq_some_iff.1 L.hs).1;have hm2:=(List.getElem?_eq_some_iff.1 L.hx).1;simp only[AD.setAt,show((m:Int)+1-1).toNat=m by omega];refine⟨L.space,by show ρ.free ++ [m+1]=σ.free ++ [((m:Int)+1).toNat];rw[L.free,show((m:Int)+1).toNat=m+1 by omega],by simp[Rs.freed,L.len],fun j t y ht hy=>?_⟩;simp only[Rs.freed] at ht hy;by_cases e:j=m
 · subst e
   rw[List.getElem?_set_self hm] at ht;rw[List.getElem?_set_self hm2] at hy;cases ht;cases hy;exact .inl ⟨rfl,rfl⟩
 rw[List.getElem?_set_ne (Ne.symm e)] at ht hy;exact L.slot j t y e ht hy
def Sp.less (x:Sp):Sp := { x with sides:=x.sides-1 }
theorem Lk.owe (L:Lk σ ρ) {h:Int} {rest:List Int} (hs:Sound σ (h::rest)):∃(m:Nat) (s:Nd×Nat) (x:Sp),h=(m:Int)+1∧ρ.spots[m]?=Option.some x∧1≤x.sides∧LkD σ (ρ.setAt m x.less) m s x.less:=by
 obtain⟨s,hx⟩:=hs.pile h (List.mem_cons_self ..);obtain⟨m,rfl,hm,h0,hlt⟩:=AD.Ag hx;have hlr:m<ρ.spots.length:=by rw[L.len];exact hlt
 have hc:=hs.counts _ s hx;rw[List.count_cons_self] at hc;rcases L.slot m s _ hm (List.getElem?_eq_getElem hlr) with⟨e,_⟩|⟨_,h1,h2,h3,h4,h5,h6,h7,h8⟩
 · exact absurd e h0
 refine⟨m,s,ρ.spots[m],rfl,List.getElem?_eq_getElem hlr,by omega,⟨L.space,L.free,by simp[Rs.setAt,L.len],hm,List.getElem?_set_self hlr,h0,⟨h1,h2,h3,h4,h5,h6,h7,?_⟩,fun j t y hj ht hy=>?_⟩⟩
 · show ρ.spots[m].own+(ρ.spots[m].sides-1)+1=(s.2:Int)
   omega
 unfold Rs.setAt at hy;simp only at hy;rw[List.getElem?_set_ne (Ne.symm hj)] at hy;exact L.slot j t y ht hy
end
section
variable {w w' : World} {b : Nat} {F : Nat→Prop} {ρ : Rs}
theorem RAt.YX (h:RAt w b F ρ) {m:Nat} {x:Sp} (hx:ρ.spots[m]?=some x) {g cap:Nat} {vf:Value} {cur:Array Value} (hb:w.heap[b]?=some (.cells #[.bool true,.int .i64 (ρ.space:Nat),.slice (some ⟨g,0,none⟩) ρ.spots.length cap,vf] 272 (0,0)))
 (hg:w.heap[g]?=some (.cells cur 254 (0,0))) :
 m*39+39≤cur.size∧RAt (w.setRow g (splice cur.toList (m*39) Sp.zero.cells.toList).toArray) b F (ρ.setAt m Sp.zero)∧Ch F w (w.setRow g (splice cur.toList (m*39) Sp.zero.cells.toList).toArray) ∧
  (w.setRow g (splice cur.toList (m*39) Sp.zero.cells.toList).toArray).heap[b]?=some (.cells #[.bool true,.int .i64 (ρ.space:Nat),.slice (some ⟨g,0,none⟩) ρ.spots.length cap,vf] 272 (0,0)):=by
 obtain⟨h0,vs,vf',h1,h2,h3,h4,h5,h6,h7,h8⟩:=h;rw[hb] at h1;simp only[Option.some.injEq,Obj.cells.injEq,and_true,true_and,Array.mk.injEq,List.cons.injEq,and_self] at h1;obtain⟨rfl,rfl⟩:=h1;have hm:=(List.getElem?_eq_some_iff.1 hx).1;obtain⟨g',cap',cur',e,hg',hc1,hc2,hc3,hc4⟩:=BZ h2 (by omega);cases e;rw[hg] at hg';cases hg';obtain⟨fg,gb⟩:=h6 g rfl
 have hsz:∀a∈ρ.spots.map Sp.cells,a.size=39:=fun a ha=>by
  obtain⟨z,hz,rfl⟩:=List.mem_map.1 ha;exact Sp.AT (h0.nums z hz).1
 have hzs:=Sp.AT Sp.BA;have hle:(m+1)*39≤ρ.spots.length*39:=Nat.mul_le_mul_right _ hm;have hkc:ρ.spots.length*39≤cur.size:=by rw[hc3];exact Nat.mul_le_mul_right _ hc1
 have hkk:m*39+39≤ρ.spots.length*39:=by omega
 obtain⟨new,HN⟩:∃new,(splice cur.toList (m*39) Sp.zero.cells.toList).toArray=new:=⟨_,rfl⟩
 have HT:new.toList.take (ρ.spots.length*39)=Bz ((ρ.spots.set m Sp.zero).map Sp.cells):=by
  rw[←HN];have e1:=EG hc4 hkc (off:=m*39) (v:=Sp.zero.cells.toList) (by rw[Array.length_toList,hzs];omega);have e2:=Ib hsz (i:=m) (by simpa using hm) hzs;rw[e2, ←List.map_set] at e1;exact e1
 have HS:new.size=cur.size:=by
  rw[←HN];have:=Co cur.toList (m*39) Sp.zero.cells.toList (by rw[Array.length_toList,hzs,Array.length_toList];omega);simpa using this
 rw[HN];have hCh:Ch (fun j=>j=g) w (w.setRow g new):=(Ch.refl (fun j=>j=g) w).setRow (.inl rfl) new;have hb5:=row_setRow hb (Ne.symm gb) new;refine⟨by omega,⟨⟨h0.space,by simpa[Rs.setAt] using h0.len,fun n hn=>by simpa[Rs.setAt] using h0.free n hn,by simpa[Rs.setAt] using h0.flen,fun z hz=>?_⟩,_,_,hb5,?_,?_,fun z hz=>?_,h5,fun k hk=>h6 k hk,h7,fun k hk=>Nat.lt_of_lt_of_le (h8 k hk) hCh.size⟩,hCh.mono (fun j _ e=>by rw[e];exact fg),hb5⟩
 · rcases List.mem_or_eq_of_mem_set hz with hz|rfl
   · exact h0.nums z hz
   exact⟨Sp.BA,⟨Int.le_refl 0,by show(0:Int)≤2147483648;decide⟩,⟨Int.le_refl 0,by show(0:Int)≤2147483648;decide⟩⟩
 · show World.ownsRow _ 0 _ 39 _ (ρ.spots.set m Sp.zero).length _
   rw[List.length_set];exact CE (AF hg new) hc1 hc2 (by rw[HS];exact hc3) HT
 · exact hCh.owns h3 (fun k hk e=>(h7 k hk).2.2 (by subst e;rfl))
 rcases List.mem_or_eq_of_mem_set hz with hz|rfl
 · obtain⟨u1,u2⟩:=h4 z hz
   exact⟨u1.Am hCh (fun k hk e=>(u2 k hk).2.2.1 (by subst e;rfl)),u2⟩
 exact⟨Bytes.nil _,fun k hk=>by cases hk⟩
theorem RAt.Ti (h:RAt w b F ρ) {m:Nat} (hm:m<ρ.spots.length) (hfl:ρ.free.length<ρ.spots.length) {vs vf:Value} (hb:w.heap[b]?=some (.cells #[.bool true,.int .i64 (ρ.space:Nat),vs,vf] 272 (0,0)))
 {w1 w4:World} {v':Value} (a:Adds w w1) (own':w4.ownsRow 0 3 1 v' (ρ.free.length+1) (ints ρ.free ++ [.int .i64 ((m:Int)+1)])) (grow':w1.grownBy w4 vf.ownBlock) (ob':v'.ownBlock=vf.ownBlock∨∀j,v'.ownBlock=some j→w1.heap.size≤j) :
 RMoved w (w4.setCell ⟨b,3,none⟩ v') b F { ρ with free:=ρ.free ++ [m+1] }:=by
 obtain⟨z0,vs',vf',h1,h2,h3,z4,z5,z6,z7,z8⟩:=h;rw[hb] at h1;simp only[Option.some.injEq,Obj.cells.injEq,and_true,true_and,Array.mk.injEq,List.cons.injEq,and_self] at h1;obtain⟨rfl,rfl⟩:=h1;have CH:Ch (fun j=>vf.ownBlock=some j) w w4:=(a.mono (G:=fun j=>vf.ownBlock=some j) (fun _ _ h=>h.elim)).grown grow' (fun j hj=>.inl hj);have hnb':¬vf.ownBlock=some b:=fun e=>(z7 b e).2.1 rfl
 have r4b:=CH.row hb hnb';have hb5:=Aa r4b 3 v';have hsz:=a.size
 have hne:∀j,v'.ownBlock=some j→j≠b∧(F j∨w.heap.size≤j)∧vs.ownBlock≠some j∧∀z∈ρ.spots,z.addr.ownBlock≠some j:=fun j hj=>by
  rcases ob' with e|e
  · rw[e] at hj
    exact⟨(z7 j hj).2.1,.inl (z7 j hj).1,(z7 j hj).2.2,fun z hz h=>((z4 z hz).2 j h).2.2.2 hj⟩
  have h1:=e j hj;have hbs:=z8 b z5;exact⟨by omega,.inr (by omega),fun h=>by have:=z8 j (z6 j h).1;omega,fun z hz h=>by have:=z8 j ((z4 z hz).2 j h).1;omega⟩
 have hC5:Ch (fun j=>j=b∨vf.ownBlock=some j) w (w4.setCell ⟨b,3,none⟩ v'):=(CH.mono (G:=fun j=>j=b∨vf.ownBlock=some j) (fun _ _ h=>.inr h)).setCell (p:=⟨b,3,none⟩) (.inl (.inl rfl)) _;have hs5:(w4.setCell ⟨b,3,none⟩ v').heap.size=w4.heap.size:=by simp
 refine⟨fun j=>F j∨(w.heap.size≤j∧j<w4.heap.size),⟨⟨z0.space,z0.len,fun n hn=>?_,?_,z0.nums⟩,vs,v',hb5,?_,?_,fun z hz=>?_,.inl z5,fun j hj=>?_,fun j hj=>?_,fun j hj=>?_⟩,hC5.mono ?_,fun j hj=>hj.imp id (fun h=>h.1)⟩
 · rcases List.mem_append.1 hn with hn|hn
   · exact z0.free n hn
   obtain rfl:=List.mem_singleton.1 hn;exact⟨by omega,hm⟩
 · show(ρ.free ++ [m+1]).length≤ρ.spots.length
   rw[List.length_append,List.length_singleton];omega
 · exact hC5.owns h2 (fun j hj e=>by
    rcases e with rfl|e
    · exact(z6 _ hj).2 rfl
    exact(z7 _ e).2.2 hj)
 · show World.ownsRow _ 0 _ 1 v' (ρ.free ++ [m+1]).length (ints (ρ.free ++ [m+1]))
   rw[List.length_append,List.length_singleton,show ints (ρ.free ++ [m+1])=ints ρ.free ++ [.int .i64 ((m:Int)+1)] by simp[ints]];exact((Ch.refl (fun j=>j=b) w4).setCell (p:=⟨b,3,none⟩) (.inl rfl) _).owns own' (fun j hj e=>(hne j hj).1 e)
 · obtain⟨u1,u2⟩:=z4 z hz
   refine⟨u1.Am hC5 (fun j hj e=>?_),fun j hj=>⟨.inl (u2 j hj).1,(u2 j hj).2.1,(u2 j hj).2.2.1,fun e=>(hne j e).2.2.2 z hz hj⟩⟩;rcases e with rfl|e
   · exact(u2 _ hj).2.1 rfl
   exact(u2 _ hj).2.2.2 e
 · exact⟨.inl (z6 j hj).1,(z6 j hj).2⟩
 · obtain⟨q1,q2,q3,q4⟩:=hne j hj
   refine⟨?_,q1,q3⟩;rcases q2 with q2|q2
   · exact .inl q2
   exact .inr ⟨q2,(own'.lt j hj).2⟩
 · rw[hs5]
   rcases hj with hj|hj
   · exact Nat.lt_of_lt_of_le (z8 j hj) CH.size
   exact hj.2
 rintro j hj (rfl|e)
 · exact z5
 exact(z7 j e).1
end
section
variable {w w' : World} {b : Nat} {F : Nat→Prop} {ρ : Rs} {σ : AD Nd}
theorem PA (h:RAt w b F ρ) {m:Nat} {x:Sp} (hx:ρ.spots[m]?=some x) (hp:0<x.own+x.sides) :
 Calls Tryz.prog 224 #[.pointer (some ⟨b,0,none⟩),.int .i64 ((m:Int)+1)] w fun e w'=>e=.returned (.int .i64 0)∧Adds w w':=by
 obtain⟨g,cap,cur,vf,hb,hg,q1,q2,q3,q4,q5,hok,hat,hex,fg,gb,hfit⟩:=ES h hx;obtain⟨_,hn1,hn2⟩:=h.1.nums x (List.mem_of_getElem? hx);have hl:=h.1.len;have hs:=h.1.space;have c2:=AG hb (i:=2) rfl;have lb:=Ad hb;obtain⟨X,hX⟩:∃X,X=x.cells:=⟨_,rfl⟩
 rw[←hX] at hex;obtain⟨Z,hZ⟩:∃Z,Z=Sp.zero.cells:=⟨_,rfl⟩
 have hzs:=Ey;rw[←hZ] at hzs;have HX:=(hIq (by rw[hX];exact Sp.AT hok:X.size=39) (by rw[hX];exact Sp.cells_one hok:∀v∈X.toList,v.oneCell'=true))
 obtain⟨ow,how⟩:∃o,o=x.own:=⟨_,rfl⟩
 obtain⟨sd,hsd⟩:∃o,o=x.sides:=⟨_,rfl⟩
 have x37:X[37]?=some (.int .i64 ow):=by rw[hX,how];exact Sp.EZ hok
 have x38:X[38]?=some (.int .i64 sd):=by rw[hX,hsd];exact Sp.Gg hok
 rw[←how] at hn1 hp;rw[←hsd] at hn2 hp;have HZ:=(hIq hzs (by rw[hZ];exact Sp.AT Sp.BA:Z.size=39))
 have HH:=(hIq hg (aIq hex hfit))
 have HC:=(hIq x37 x38)
 obtain⟨L,hL⟩:∃L,L=ρ.spots.length:=⟨_,rfl⟩
 rw[←hL] at c2 q5 hl;have hml:m≤65535:=by omega
 have hw1:IntKind.i64.wrap (ow+sd)=ow+sd:=IntWalk.i64_in _ (by omega);have hp':decide (0<ow+sd)=true:=decide_eq_true hp;have c37:=AG (AF (heap_alloc_new w (.cells Z 254)) X) x37;have c38:=AG (AF (heap_alloc_new w (.cells Z 254)) X) x38;clear hb hg q1 q2 q3 q4 hok hat hex fg gb hfit h hX hZ hzs x37 x38 how hsd hx hL;go_enter Tryz.func224,Tryz.ntmps224
 go_wp2_with (first
  | fail
  | ((with_reducible show zOq (.alloc 254));refine AH rfl 254 rfl (.agg Z) HZ.out.1 ?_;dsimp only[Value.cells];try simp only[World.size_alloc])
  | ((with_reducible show zOq (.load 254 _));refine AK rfl 254 _ rfl g (m*39) rfl HH.out.1 Tryz.underlying254 rfl CJ HH.out.2.2 X HH.out.2.1 ?_)
  | ((with_reducible show zOq (.store 254 _ _));refine AE rfl 254 _ _ rfl w.heap.size 0 X rfl rfl (heap_alloc_new _ _) (by rw[CJ,HX.out.1]) (by rw[HX.out.1,HZ.out.2];omega) HX.out.2 X (by rw[AI _ _ (by rw[Array.length_toList,Array.length_toList,HX.out.1,HZ.out.2])]) ?_))
 go_ret;exact⟨rfl,((Ch.refl _ w).alloc _).setRow (.inr (Nat.le_refl _)) _⟩
def DF (w wz:World) (b:Nat) (F:Nat→Prop) (ρ:Rs) (X:Array Value):Prop :=
 ∃F',RAt wz b F' ρ∧Ch F w wz∧(∀k,F' k→F k∨w.heap.size<k)∧wz.heap[w.heap.size]?=some (.cells X 254 (0,0))∧∀k,F k→k<w.heap.size
theorem DF.step {wz:World} {X:Array Value} {ρ':Rs} {F':Nat→Prop} (c:Ch F w wz) (f:∀k,F' k→F k∨w.heap.size<k) (e:wz.heap[w.heap.size]?=some (.cells X 254 (0,0))) (hF:∀k,F k→k<w.heap.size) (hm:RMoved wz w' b F' ρ'):DF w w' b F ρ' X:=by
 obtain⟨F2,r2,c2,f2⟩:=hm;have hlt:=Ad e;refine⟨F2,r2,c.trans c2 (fun k hk=>(f k hk).imp id (fun h=>by omega)),fun k hk=>?_,c2.row e (fun h=>?_),hF⟩
 · rcases f2 k hk with h|h
   · exact f k h
   exact .inr (by omega)
 rcases f _ h with h|h
 · have:=hF _ h;omega
 omega
theorem DF.GO {wz:World} {X:Array Value} (h:DF w wz b F ρ X):RMoved w wz b F ρ:=by
 obtain⟨F',r,c,f,_,_⟩:=h;exact⟨F',r,c,fun k hk=>(f k hk).imp id (fun h=>by omega)⟩
theorem DF.drew {wz:World} {X:Array Value} (h:DF w wz b F ρ X):DF w wz.drew b F ρ X:=by
 obtain⟨F',r,c,f,e,g⟩:=h;exact⟨F',r.adds (Ch.refl (fun _=>False) wz).drew,c.drew,f,AQ e,g⟩
theorem RAt.QY (h:RAt w b F ρ) {vs vf:Value} (hb:w.heap[b]?=some (.cells #[.bool true,.int .i64 (ρ.space:Nat),vs,vf] 272 (0,0))):w.ownsRow 0 3 1 vf ρ.free.length (ints ρ.free):=by
 obtain⟨_,vs',vf',h1,h2,h3,_⟩:=h;rw[hb] at h1;simp only[Option.some.injEq,Obj.cells.injEq,and_true,true_and,Array.mk.injEq,List.cons.injEq,and_self] at h1;obtain⟨rfl,rfl⟩:=h1;exact h3
end
def Pv (T b:Nat):Prop:=∀(σ:AD Nd) (ρ:Rs) (m:Nat) (s:Nd×Nat) (x:Sp) (rest:List Int) (w:World) (F:Nat→Prop),total σ≤T→Sound σ (((m:Int)+1)::rest)→LkD σ ρ m s x→RAt w b F ρ →
 Calls Tryz.prog 224 #[.pointer (some ⟨b,0,none⟩),.int .i64 ((m:Int)+1)] w fun e w'=>e=.returned (.int .i64 ((sweep σ [(m:Int)+1] 0).1:Nat))∧∃ρ',Lk (sweep σ [(m:Int)+1] 0).2 ρ'∧RMoved w w' b F ρ'
section
variable {w w' : World} {b : Nat} {F : Nat→Prop} {ρ : Rs} {σ : AD Nd}
theorem RAt.XR (h:RAt w b F ρ) {vs vf:Value} (hb:w.heap[b]?=some (.cells #[.bool true,.int .i64 (ρ.space:Nat),vs,vf] 272 (0,0))):¬vf.ownBlock=some b:=by
 obtain⟨_,vs',vf',h1,h2,h3,_,_,_,z7,_⟩:=h;rw[hb] at h1;simp only[Option.some.injEq,Obj.cells.injEq,and_true,true_and,Array.mk.injEq,List.cons.injEq,and_self] at h1;obtain⟨rfl,rfl⟩:=h1;exact fun e=>(z7 b e).2.1 rfl
theorem RAt.lt (h:RAt w b F ρ):∀k,F k→k<w.heap.size:=by obtain⟨_,_,_,_,_,_,_,_,_,_,h8⟩:=h;exact h8
theorem DF.kid {T:Nat} (ih:Pv T b) {wz:World} {X:Array Value} {l:Int} {rest:List Int} (H:DF w wz b F ρ X) (L:Lk σ ρ) (hT:total σ≤T) (S:Sound σ (l::rest)) :
 ∃(m g cap:Nat) (vf:Value) (x:Sp) (cur:Array Value),l=(m:Int)+1∧m<65536∧m<ρ.spots.length∧ρ.spots.length≤65536∧1≤x.sides∧x.sides≤2147483648 ∧
  wz.heap[b]?=some (.cells #[.bool true,.int .i64 (ρ.space:Nat),.slice (some ⟨g,0,none⟩) ρ.spots.length cap,vf] 272 (0,0)) ∧
  wz.heap[g]?=some (.cells cur 254 (0,0))∧cur[m*39+38]?=some (.int .i64 x.sides)∧g≠b∧g≠w.heap.size ∧
  Calls Tryz.prog 224 #[.pointer (some ⟨b,0,none⟩),.int .i64 l] (wz.setCell ⟨g,m*39+38,none⟩ (.int .i64 (x.sides-1))) fun e w'=>e=.returned (.int .i64 ((sweep σ [l] 0).1:Nat))∧∃ρ',Lk (sweep σ [l] 0).2 ρ'∧DF w w' b F ρ' X:=by
 obtain⟨m,s,x,rfl,hx,h1,LD⟩:=L.owe S;obtain⟨F',h,c,f,e,hF⟩:=H;obtain⟨g,cap,cur,vf,hb,hg,q1,q2,q3,q4,q5,hok,hat,hex,fg,gb,hfit⟩:=ES h hx;obtain⟨_,hn1,hn2⟩:=h.1.nums x (List.mem_of_getElem? hx);have hl:=h.1.len;have hs:=h.1.space;obtain⟨r1,ch1,hb1⟩:=h.J0 hx hb 38 (.int .i64 (x.sides-1)) (by omega) (Sp.Lc hok _) (y:=x.less) ⟨⟨hok.key,hok.addr,hok.val⟩,hn1,⟨by show 0≤x.sides-1;omega,by show x.sides-1≤_;omega⟩⟩ ⟨rfl,rfl⟩
 have hgw:g≠w.heap.size:=fun he=>by
  rcases f g fg with h2|h2
  · have:=hF g h2;omega
  omega
 refine⟨m,g,cap,vf,x,cur,rfl,by omega,q5,by omega,h1,hn2.2,hb,hg,hat 38 _ (by omega) (Sp.Gg hok),gb,hgw,?_⟩;refine(ih σ _ m s _ rest _ F' hT S LD r1).mono ?_;rintro e1 w1 ⟨rfl,ρ',L',hm⟩;refine⟨rfl,ρ',L',?_⟩;have c2:Ch F w (wz.setCell ⟨g,m*39+38,none⟩ (.int .i64 (x.sides-1))):=c.trans ch1 (fun k hk=>(f k hk).imp id (fun h=>by omega));have e2:(wz.setCell ⟨g,m*39+38,none⟩ (.int .i64 (x.sides-1))).heap[w.heap.size]?=some (.cells X 254 (0,0)):=Ak e (Ne.symm hgw) _;exact DF.step c2 f e2 hF hm
def kids (n:Int):List Int:=if n=0 then [] else [n]
theorem MB (n:Nd) (st:List Int):pile n st=kids n.left++(kids n.right++st):=rfl
theorem LJ:kids 0 = []:=rfl
theorem Fp {n:Int} (h:n≠0):kids n = [n]:=if_neg h
theorem LkD.room {m:Nat} {s:Nd×Nat} {x:Sp} {rest:List Int} (L:LkD σ ρ m s x) (hs:Sound σ rest):σ.free.length<σ.slots.length:=by
 have h1:=Lf hs.wf;have h2:0<Store.live σ:=List.countP_pos_iff.2 ⟨s,List.mem_of_getElem? L.hs,by simpa using L.live⟩;unfold AD.used at h1;omega
theorem OK {m:Nat} {s:Nd×Nat} (hg:σ.get? ((m:Int)+1)=some s) (hd:(σ.drop Nd.zero ((m:Int)+1)).1=true) :
 sweep σ [(m:Int)+1] 0=(1+(sweep (σ.drop Nd.zero ((m:Int)+1)).2.2 (kids s.1.left) 0).1+(sweep (sweep (σ.drop Nd.zero ((m:Int)+1)).2.2 (kids s.1.left) 0).2 (kids s.1.right) 0).1,(sweep (sweep (σ.drop Nd.zero ((m:Int)+1)).2.2 (kids s.1.left) 0).2 (kids s.1.right) 0).2):=by
 rw[CG hd,Ay hg,MB,List.append_nil,Mv,Ks _ (kids s.1.left) (0+1)];simp only;rw[Ks];simp only[Prod.mk.injEq,and_true];omega
end
end Go.Proofs.YtooijgcildbnlaaGreat.Store
