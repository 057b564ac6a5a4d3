/- Laws of the layers below. -/
import Derived.Test.YtngbdbpofifimaaGreatQl22
set_option maxHeartbeats 3200000
set_option maxRecDepth 100000
set_option linter.unusedVariables false
namespace Go.Proofs.YtngbdbpofifimaaGreat.Law9
open Go.RowKit Go.Sort Go.Proofs.YtngbdbpofifimaaGreat.ShaW Go.Proofs.YtngbdbpofifimaaGreat.Path Go.Proofs.YtngbdbpofifimaaGreat.Store
theorem ME {w:World} {ao:Option Addr} {l:List Wm} (cap:Nat) (h:Cq w ao l) (hn:l.length≤4096) (d:Nat) (hd:d<256) :
 Calls Tryz.prog 212 #[.slice ao l.length cap,.int .i64 (d:Int)] w fun e w'=>Adds w w'∧∃n:Nat,e=.returned (.int .i64 n)∧n≤l.length∧(∀i x,i<n→l[i]?=some x→AU x.key d=0)∧(∀x,l[n]?=some x→AU x.key d=1):=by
 obtain⟨len,hlen⟩:∃len,len=l.length:=⟨_,rfl⟩
 rw[←hlen] at hn ⊢;have HL:=Lib.hid hlen;have HP:=Lib.hid h;have HD:=Lib.hid hd;clear h hlen hd;go_enter Tryz.func212,Tryz.ntmps212;go_wp2;go_loopg [5] len (fun g s5 wr=>∃k:Nat,s5=.int .i64 k∧k+g=len∧(∀i x,i<k→l[i]?=some x→AU x.key d=0)∧Adds w wr)
 case atStart=>exact⟨0,rfl,by omega,fun i x hi=>absurd hi (Nat.not_lt_zero _),Ch.refl _ _⟩
 obtain⟨k,rfl,hk,h0,hA⟩:=hrel;have HA:=Lib.hid hA;have H0:=Lib.hid h0;have HKG:=Lib.hid hk;clear hA h0;by_cases hkl:k=len
 · have hx1:decide ((k:Int)<(len:Int))=false:=decide_eq_false (by omega)
   have hx1':decide (k<len)=false:=decide_eq_false (by omega);have HKL:=Lib.hid hkl;clear hk hkl;go_wp2;go_ret
   exact⟨HA.out,k,rfl,by have:=HKL.out;omega,H0.out,fun x hx=>by
    have:=(List.getElem?_eq_some_iff.1 hx).1;have:=HKL.out;have:=HL.out;omega⟩
 have hx1:decide ((k:Int)<(len:Int))=true:=decide_eq_true (by omega);have hx1':decide (k<len)=true:=decide_eq_true (by omega);have hkl':k<l.length:=by have:=HL.out;omega
 have hklen:(k:Int)<(len:Int):=by omega
 have hklen':k<len:=by omega
 obtain⟨x,hx⟩:∃x,l[k]?=some x:=⟨_,List.getElem?_eq_getElem hkl'⟩
 obtain⟨g0,off,rfl,hp⟩:=HP.out.row k x hx;have hg:=HP.out.good x (List.mem_of_getElem? hx);have hsz:=Wm.size hg.key;obtain⟨cur,ty,fr,c1,c2,c3⟩:=hp;rw[hsz] at c2 c3;obtain⟨ck,_⟩:=QU hg.key c3;have hb:=Gp x.key hg.key d wr;rw[DQ HD.out] at hb;obtain⟨K,hK⟩:∃K,K=AK x.key:=⟨_,rfl⟩
 rw[←hK] at ck hb;have HC:=(hIq (HA.out.row c1 id) (aIq c2 ck))
 have HX:=Lib.hid hx;have HB:=Lib.hid hb;have hlt:=Au x.key d;obtain⟨b,hbb⟩:∃b,b=AU x.key d:=⟨_,rfl⟩
 rw[←hbb] at hlt HB;have HBB:=Lib.hid hbb;clear hk hkl hg hsz c1 c2 c3 ck hK hx hb hbb;rcases hlt with rfl|rfl
 · go_wp2_with (first
    | fail
    | ((with_reducible show zOq (.load 47 _));refine AG rfl 47 _ rfl g0 (off+k*34) rfl HC.out.1 Tryz.underlying47 rfl AY (by have:=HC.out.2.1;omega) K HC.out.2.2 ?_)
    | ((with_reducible show zOq (.load 47 _));refine Ba (by first|rfl|(simp[Region.wanted];done)) 47 _ rfl g0 (off+k*34) rfl HC.out.1 Tryz.underlying47 rfl AY (by have:=HC.out.2.1;omega) K HC.out.2.2 ?_))
   refine HB.out.mono ?_;rintro e w2 ⟨rfl,a2⟩;have A2:=Lib.hid (HA.out.trans a2 (fun _=>fEq));clear a2;go_wp2;go_roundg (gk-1)
   case measure=>have:=HKG.out;omega
   exact⟨k+1,rfl,by have:=HKG.out;omega,fun i y hi hy=>by
    rcases Nat.lt_or_ge i k with h|h
    · exact H0.out i y h hy
    have:i=k:=by omega
    subst this;have hx:=HX.out;rw[hx] at hy;cases hy;exact HBB.out.symm,A2.out⟩
 go_wp2_with (first
  | fail
  | ((with_reducible show zOq (.load 47 _));refine AG rfl 47 _ rfl g0 (off+k*34) rfl HC.out.1 Tryz.underlying47 rfl AY (by have:=HC.out.2.1;omega) K HC.out.2.2 ?_)
  | ((with_reducible show zOq (.load 47 _));refine Ba (by first|rfl|(simp[Region.wanted];done)) 47 _ rfl g0 (off+k*34) rfl HC.out.1 Tryz.underlying47 rfl AY (by have:=HC.out.2.1;omega) K HC.out.2.2 ?_))
 refine HB.out.mono ?_;rintro e w2 ⟨rfl,a2⟩;have A2:=Lib.hid (HA.out.trans a2 (fun _=>fEq));clear a2;go_wp2;go_ret
 exact⟨A2.out,k,rfl,by omega,H0.out,fun y hy=>by
  have hx:=HX.out;rw[hx] at hy;cases hy;exact HBB.out.symm⟩
section
variable {w0 w : World} {s : Nat} {σ : AD Nd} {G : Nat→Prop}
theorem N1 (h:Ow w0 w s σ G) (n:Int):Calls Tryz.prog 209 #[.pointer (some ⟨s,0,none⟩),.int .i64 n] w fun e w'=>e=.returned (.int .i64 n)∧Ow w0 w' s (Aq σ n) G∧But G w w':=by
 by_cases h0:n=0
 · have e:Aq σ n=σ:=by unfold Aq;rw[if_neg (by simpa using h0)]
   rw[e];have H:=Lib.hid h;clear h e;go_enter Tryz.func209,Tryz.ntmps209;go_wp2;go_ret;exact⟨rfl,H.out,Ch.refl _ _⟩
 have e:Aq σ n=(BI σ n).2:=by unfold Aq;rw[if_pos h0]
 rw[e];have HO:=Lib.hid (h.hold n);clear h e;go_enter Tryz.func209,Tryz.ntmps209;go_wp2_with fail;refine HO.out.mono ?_;rintro e w1 ⟨rfl,o1,b1⟩;have H1:=(hIq o1 b1)
 clear o1 b1;go_wp2;go_ret;exact⟨rfl,H1.out⟩
theorem Nb (h:Ow w0 w s σ G) (d l r:Int):Calls Tryz.prog 213 #[.pointer (some ⟨s,0,none⟩),.int .i64 d,.int .i64 l,.int .i64 r] w fun e w'=>e=.returned (.int .i64 (IL σ d l r).1)∧Ow w0 w' s (IL σ d l r).2 G∧But G w w':=by
 obtain⟨F,hAt⟩:=h.at;have hkl:=fun w1 (a:Adds w w1) n=>E3 (hAt.adds a) n
 have hin:=fun w1 (a:Adds w w1)=>(h.adds a).inner d l r
 have hz:(nd σ 0).kind=0:=rfl;have H:=Lib.hid h;have HK:=Lib.hid hkl;have HI:=Lib.hid hin;obtain⟨kr,hkr⟩:∃k,k=(nd σ r).kind:=⟨_,rfl⟩
 obtain⟨kl,hkl2⟩:∃k,k=(nd σ l).kind:=⟨_,rfl⟩
 have HKR:=(hIq hkr hkl2)
 unfold IL;rw[←hkr, ←hkl2];by_cases h1:l=0
 · subst h1
   by_cases h2:kr=2
   · have hr:¬r=0:=fun e=>by rw[e,hz] at hkr;omega
     rw[if_neg (fun h=>h.2 h2),if_neg (fun h=>hr h.1)];have t2:((kr:Nat):Int)=2:=by omega
     clear h hkl hin hz hkr hkl2 hAt h2;go_enter Tryz.func213,Tryz.ntmps213;go_wp2_with fail;refine(HK.out w (Ch.refl _ _) r).mono ?_;rintro e w1 ⟨rfl,a1⟩;rw[←HKR.out.1,t2];have A1:=Lib.hid a1;clear a1;go_wp2_with fail;refine(HI.out _ A1.out).mono ?_;rintro e w2 ⟨rfl,o2,b2⟩;have H2:=(hIq o2 ((Adds.but A1.out).then b2))
     clear o2 b2;go_wp2;go_ret;exact⟨rfl,H2.out⟩
   rw[if_pos ⟨rfl,h2⟩];have t2:¬((kr:Nat):Int)=2:=by omega
   clear h hkl hin hz hkr hkl2 hAt h2;go_enter Tryz.func213,Tryz.ntmps213;go_wp2_with fail;refine(HK.out w (Ch.refl _ _) r).mono ?_;rintro e w1 ⟨rfl,a1⟩;rw[←HKR.out.1];have A1:=Lib.hid a1;clear a1;go_wp2;go_ret;exact⟨rfl,H.out.adds A1.out,Adds.but A1.out⟩
 rw[if_neg (fun h=>h1 h.1)];by_cases h0:r=0
 · subst h0
   by_cases h2:kl=2
   · rw[if_neg (fun h=>h.2 h2)]
     have t2:((kl:Nat):Int)=2:=by omega
     clear h hkl hin hz hkr hkl2 hAt h2;go_enter Tryz.func213,Tryz.ntmps213;go_wp2_with fail;refine(HK.out w (Ch.refl _ _) l).mono ?_;rintro e w1 ⟨rfl,a1⟩;rw[←HKR.out.2,t2];have A1:=Lib.hid a1;clear a1;go_wp2_with fail;refine(HI.out _ A1.out).mono ?_;rintro e w2 ⟨rfl,o2,b2⟩;have H2:=(hIq o2 ((Adds.but A1.out).then b2))
     clear o2 b2;go_wp2;go_ret;exact⟨rfl,H2.out⟩
   rw[if_pos ⟨rfl,h2⟩];have t2:¬((kl:Nat):Int)=2:=by omega
   clear h hkl hin hz hkr hkl2 hAt h2;go_enter Tryz.func213,Tryz.ntmps213;go_wp2_with fail;refine(HK.out w (Ch.refl _ _) l).mono ?_;rintro e w1 ⟨rfl,a1⟩;rw[←HKR.out.2];have A1:=Lib.hid a1;clear a1;go_wp2;go_ret;exact⟨rfl,H.out.adds A1.out,Adds.but A1.out⟩
 rw[if_neg (fun h=>h0 h.1)];clear h hkl hin hz hkr hkl2 hAt;go_enter Tryz.func213,Tryz.ntmps213;go_wp2_with fail;refine(HI.out _ (Ch.refl _ _)).mono ?_;rintro e w2 ⟨rfl,o2,b2⟩;have H2:=(hIq o2 b2)
 clear o2 b2;go_wp2;go_ret;exact⟨rfl,H2.out⟩
end
end Go.Proofs.YtngbdbpofifimaaGreat.Law9
namespace Go.Proofs.YtngbdbpofifimaaGreat.Store
open Go.RowKit
theorem BJ {P:Program} {C:Code} {Q:Exit→Act→World→Prop} {a:Act} {w:World} (h:∀w0,w0=w→C.wp P Q a w0):C.wp P Q a w:=h w rfl
theorem Pf {P:Program} (w:World) (t e:TypeId) (ie:TypeInfo) (z v u:Value) (hu:P.underlying t=some (.slice e)) (hie:P.info? e=some ie) (hz:ie.zero=some z) (hsmall:ie.size≤65536) (hpos:0<ie.size) (hv:v.cells.size=ie.size) (hu2:u.cells.size=ie.size) :
 (Instr.buildSlice t 2 #[(0,v),(1,u)]).run P w=.ok (.slice (some ⟨w.heap.size,0,none⟩) 2 2) (w.alloc (.cells (v.cells++u.cells) e)):=by
 refine run_buildSlice w t e 2 #[(0,v),(1,u)] (v.cells++u.cells) ie z hu hie hz (by omega) (by omega) ?_
 show Instr.fill _ _ [(0,v),(1,u)]=_
 rw[Ai (off:=0) (size:=ie.size) (by simp) hv (by simp;omega)];rw[Ai (off:=ie.size) (size:=ie.size) (by simp) hu2 (by simp[splice,hv];omega)];simp only[Instr.fill,splice,Option.some.injEq];apply Array.ext';simp[hv,hu2];omega
theorem Mc {P:Program} {w:World} {ops:Array Oper} {rest:List Oper} {o:Oper} {a:Act} {Q:Exit→Act→World→Prop} (hgd:o.guard=none) (t:TypeId) (x y:Operand) (ho:o.op=.buildSlice t 2 #[(0,x),(1,y)])
 (e:TypeId) (ie:TypeInfo) (z v u:Value) (hx:a.eval x=v) (hy:a.eval y=u) (hu:P.underlying t=some (.slice e)) (hie:P.info? e=some ie) (hz:ie.zero=some z) (hsmall:ie.size≤65536) (hpos:0<ie.size) (hv:v.cells.size=ie.size) (hu2:u.cells.size=ie.size)
 (h:wpList P ops Q rest (a.put o.dst (.slice (some ⟨w.heap.size,0,none⟩) 2 2)) (w.alloc (.cells (v.cells++u.cells) e))):wpList P ops Q (o::rest) a w :=
 wpList_plain hgd fun _ hK=>by
  unfold Oper.wp execOp;have:=Pf w t e ie z v u hu hie hz hsmall hpos hv hu2;simp only[ho,List.map_toArray,List.map_cons,List.map_nil,hx,hy,Sem.run_bind,this,Result.andThen_ok];exact hK _ _ h
theorem Mq {A B C Z:List Value} {n:Nat} (hA:A.length=n) (hB:B.length=n) (hC:C.length=n) (hZ:Z.length=3*n) :
 List.take (2*n) (A++(B++List.drop (n+n) (A++List.drop n Z)))++(C++List.drop (2*n+n) (A++(B++List.drop (n+n) (A++List.drop n Z))))=A++(B++C):=by
 have e1:List.drop (n+n) (A++List.drop n Z)=List.drop (2*n) Z:=by
  rw[List.drop_append,List.drop_eq_nil_of_le (by omega),hA,List.nil_append,List.drop_drop]
  congr 1
  omega
 rw[e1, ←List.append_assoc A B,List.take_left' (by rw[List.length_append];omega),List.drop_eq_nil_of_le (by simp only[List.length_append,List.length_drop];omega),List.append_nil,List.append_assoc]
theorem PQ {P:Program} (w:World) (t e:TypeId) (ie:TypeInfo) (z v u x:Value) (hu:P.underlying t=some (.slice e)) (hie:P.info? e=some ie) (hz:ie.zero=some z) (hsmall:ie.size≤65536) (hpos:0<ie.size) (hv:v.cells.size=ie.size) (hu2:u.cells.size=ie.size) (hx2:x.cells.size=ie.size) :
 (Instr.buildSlice t 3 #[(0,v),(1,u),(2,x)]).run P w=.ok (.slice (some ⟨w.heap.size,0,none⟩) 3 3) (w.alloc (.cells (v.cells++u.cells++x.cells) e)):=by
 refine run_buildSlice w t e 3 #[(0,v),(1,u),(2,x)] (v.cells++u.cells++x.cells) ie z hu hie hz (by omega) (by omega) ?_
 show Instr.fill _ _ [(0,v),(1,u),(2,x)]=_
 rw[Ai (off:=0) (size:=ie.size) (by simp) hv (by simp;omega)];rw[Ai (off:=ie.size) (size:=ie.size) (by simp) hu2 (by simp[splice,hv];omega)];rw[Ai (off:=2*ie.size) (size:=ie.size) (by simp) hx2 (by simp[splice,hv,hu2];omega)];simp only[Instr.fill,splice,Option.some.injEq];apply Array.ext';simp[hv,hu2,hx2];exact Mq (by simp[hv]) (by simp[hu2]) (by simp[hx2]) (by simp)
theorem MH {P:Program} {w:World} {ops:Array Oper} {rest:List Oper} {o:Oper} {a:Act} {Q:Exit→Act→World→Prop} (hgd:o.guard=none) (t:TypeId) (x y q:Operand) (ho:o.op=.buildSlice t 3 #[(0,x),(1,y),(2,q)])
 (e:TypeId) (ie:TypeInfo) (z v u r:Value) (hx:a.eval x=v) (hy:a.eval y=u) (hq:a.eval q=r) (hu:P.underlying t=some (.slice e)) (hie:P.info? e=some ie) (hz:ie.zero=some z) (hsmall:ie.size≤65536) (hpos:0<ie.size) (hv:v.cells.size=ie.size) (hu2:u.cells.size=ie.size) (hr2:r.cells.size=ie.size)
 (h:wpList P ops Q rest (a.put o.dst (.slice (some ⟨w.heap.size,0,none⟩) 3 3)) (w.alloc (.cells (v.cells++u.cells++r.cells) e))):wpList P ops Q (o::rest) a w :=
 wpList_plain hgd fun _ hK=>by
  unfold Oper.wp execOp;have:=PQ w t e ie z v u r hu hie hz hsmall hpos hv hu2 hr2;simp only[ho,List.map_toArray,List.map_cons,List.map_nil,hx,hy,hq,Sem.run_bind,this,Result.andThen_ok];exact hK _ _ h
end Go.Proofs.YtngbdbpofifimaaGreat.Store
namespace Go.Proofs.YtngbdbpofifimaaGreat.Law9
open Go.RowKit Go.Sort Go.Proofs.YtngbdbpofifimaaGreat.ShaW Go.Proofs.YtngbdbpofifimaaGreat.Path Go.Proofs.YtngbdbpofifimaaGreat.Store
structure WmsG (G:Nat→Prop) (w:World) (ao:Option Addr) (l:List Wm):Prop where
 at_:Cq w ao l
 row:l ≠ []→∃a,ao=some a∧G a.block
 vals:∀x∈l,x.val ≠ []→∀k,x.vv.ownBlock=some k→G k
section
variable {G : Nat→Prop} {w w' : World} {ao : Option Addr} {l : List Wm}
theorem WmsG.but (h:WmsG G w ao l) (hb:But G w w'):WmsG G w' ao l:=by
 refine⟨⟨fun x hx=>?_,fun i x hi=>?_⟩,h.row,h.vals⟩
 · have hg:=h.at_.good x hx
   exact⟨hg.key,hg.val.JN hb (fun h0 k hk hf=>hf (h.vals x hx h0 k hk)),fun h0 k hk=>Nat.lt_of_lt_of_le (hg.blk h0 k hk) hb.size⟩
 obtain⟨g,off,rfl,h3⟩:=h.at_.row i x hi;obtain⟨a,e,hG⟩:=h.row (fun e=>by rw[e] at hi;simp at hi);injection e with e;subst e;exact⟨g,off,rfl,h3.Af hb (fun hf=>hf hG)⟩
theorem WmsG.take (h:WmsG G w ao l) (n:Nat):WmsG G w ao (l.take n) :=
 ⟨h.at_.take n,fun e=>h.row (fun e2=>e (by rw[e2];simp)),fun x hx=>h.vals x (List.mem_of_mem_take hx)⟩
theorem WmsG.drop (h:WmsG G w ao l) (n cap:Nat) (hc:l.length≤cap):WmsG G w (PA 34 ao cap n) (l.drop n):=by
 refine⟨h.at_.drop n cap hc,fun e=>?_,fun x hx=>h.vals x (List.mem_of_mem_drop hx)⟩
 have hn:n<l.length:=by
  rcases Nat.lt_or_ge n l.length with h1|h1
  · exact h1
  exact absurd (List.drop_eq_nil_of_le h1) e
 obtain⟨a,rfl,hG⟩:=h.row (fun e2=>by rw[e2] at hn;simp at hn);unfold PA;rw[if_neg (by omega)];refine⟨_,rfl,?_⟩;unfold Addr.add;split<;>exact hG
end
def Br (σ:AD Nd) (o:Int):Option (List UInt8×List UInt8):=if (nd σ o).kind=1 then some ((nd σ o).key,(nd σ o).value) else none
theorem Qy {σ σ':AD Nd} {o:Int} (h0:o=0∨∃x,sk σ o=some x) (h:∀k x,sk σ k=some x→sk σ' k=some x) (hz:sk σ' 0=none):Br σ' o=Br σ o:=by
 unfold Br;rcases h0 with rfl|⟨x,hx⟩
 · rfl
 have h2:=h o x hx;rw[Ci hx,Ci h2,C6 hx,C6 h2,Dg hx,Dg h2]
def Bx (e:Option (List UInt8×List UInt8)) (L:AS):Nat:=L.countP fun p=>decide (e≠some p)
theorem RG (e:Option (List UInt8×List UInt8)) (d:Nat) (L:AS):Bx e (sideE 0 d L)+Bx e (sideE 1 d L)=Bx e L:=by
 induction L with
 | nil=>rfl
 | cons p L ih =>
  have c:∀M:AS,Bx e (p::M)=Bx e M+(if decide (e≠some p)=true then 1 else 0):=fun M=>List.countP_cons ..
  rcases Au p.1 d with hb|hb
  · have e0:sideE 0 d (p::L)=p::sideE 0 d L:=by simp[sideE,hb]
    have e1:sideE 1 d (p::L)=sideE 1 d L:=by simp[sideE,hb]
    rw[e0,e1,c,c];omega
  have e0:sideE 0 d (p::L)=sideE 0 d L:=by simp[sideE,hb]
  have e1:sideE 1 d (p::L)=p::sideE 1 d L:=by simp[sideE,hb]
  rw[e0,e1,c,c];omega
theorem SY {e:Option (List UInt8×List UInt8)} {L:AS} (hn:(keysOf L).Nodup) (h2:2≤L.length):1≤Bx e L:=by
 match L,hn,h2 with
 | p::q::R,hn,_ =>
  unfold Bx;rw[List.countP_cons,List.countP_cons];by_cases h1:e=some p
  · have h3:e≠some q:=fun e2=>by
     rw[h1] at e2;injection e2 with e2;subst e2;simp[keysOf] at hn
    rw[if_pos (c:=decide (e≠some q)=true) (by simpa using h3)];omega
  rw[if_pos (c:=decide (e≠some p)=true) (by simpa using h1)];omega
theorem Lp (e:Option (List UInt8×List UInt8)) (L:AS):Bx e L≤L.length:=List.countP_le_length
theorem WY {e:Option (List UInt8×List UInt8)} {L:AS} (hn:(keysOf L).Nodup):L.length≤Bx e L+1:=by
 induction L with
 | nil=>simp
 | cons p L ih =>
  have h2:(keysOf L).Nodup:=(List.nodup_cons.1 hn).2;have h3:=ih h2;unfold Bx at h3 ⊢;rw[List.countP_cons,List.length_cons];by_cases h1:e=some p
  · have hp:p.1∉keysOf L:=(List.nodup_cons.1 hn).1
    have:L.countP (fun p=>decide (e≠some p))=L.length:=by
     rw[List.countP_eq_length];intro q hq;have:p≠q:=fun e2=>hp (by rw[e2];exact List.mem_map_of_mem hq)
     rw[h1];simpa using this
    rw[this];omega
  rw[if_pos (c:=decide (e≠some p)=true) (by simpa using h1)];omega
end Go.Proofs.YtngbdbpofifimaaGreat.Law9
