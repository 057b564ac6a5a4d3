/- Laws of the layers below. -/
import Derived.Shelf.SlSortCmp.WholeK
import Derived.Shelf.SlSortCmp.NoneTotal
import Derived.DeepKeys4
import Derived.WalkArith
import Derived.Test.YtooijgcildbnlaaGreatQj21
set_option maxHeartbeats 3200000
set_option maxRecDepth 100000
set_option linter.unusedVariables false
namespace Go.Proofs.YtooijgcildbnlaaGreat
open Go.Shelf
def Tn:Go.Shelf.Ren:=⟨fun|6=>273|15=>288|14=>298|28=>310|29=>311|20=>325|21=>326|22=>327|23=>328|24=>329|25=>330|26=>331|27=>332|46=>344|47=>335|48=>336|49=>345|50=>346|57=>349|n=>n,fun|22=>33|24=>141|25=>361|3=>3|39=>358|0=>0|53=>349|55=>356|4=>4|46=>390|45=>389|50=>296|5=>5|9=>9|66=>410|70=>414|76=>421|77=>244|n=>n,fun|n=>n⟩
end Go.Proofs.YtooijgcildbnlaaGreat
namespace Go.Proofs.YtooijgcildbnlaaGreat.BE
open Go.RowKit Go.Sort Go.Proofs.YtooijgcildbnlaaGreat.ShaW Go.Proofs.YtooijgcildbnlaaGreat.Path Go.Proofs.YtooijgcildbnlaaGreat.Store
structure PrK where
 p:Pr
 len:p.key.length=32
 one:p.vv.oneCell'=true
instance:Inhabited PrK:=⟨⟨⟨List.replicate 32 0,.slice none 0 0,[]⟩,rfl,rfl⟩⟩
def Yh (x:PrK):List Value:=x.p.cells.toList
def YQ (x y:PrK):Int:=Lib.compareBytes x.p.key y.p.key
theorem O5 (w:World) (os:Array Obj) (q:Nat):(grow w os).drewN q=grow (w.drewN q) os:=rfl
end Go.Proofs.YtooijgcildbnlaaGreat.BE
namespace Go.Proofs.YtooijgcildbnlaaGreat.Store
open Go.RowKit Go.Proofs.YtooijgcildbnlaaGreat.Path Go.Maps
theorem Rr:laidOutB Tryz.prog=true:=by kernel_rfl
theorem To:Keyed Tryz.prog 24:=Keyed.of_law (deep_law_laid Rr (m:=2) (by omega) (of_decide_eq_true (by kernel_rfl)) (by kernel_rfl) (by kernel_rfl))
theorem TS:Tryz.prog.keyType 24=true:=by kernel_rfl
theorem Rq:Tryz.prog.cellsOf 24=32:=by kernel_rfl
theorem T8:Tryz.prog.cellsOf 5=1:=by kernel_rfl
theorem Pz {α β:Type} {f:α→Option β} {g:α→β}:∀(l:List α),(∀x∈l,f x=some (g x))→l.mapM f=some (l.map g)
 | [],_=>rfl
 | x::l,h=>by
  rw[List.mapM_cons,h x (by simp),Pz l (fun y hy=>h y (by simp[hy]))];rfl
theorem KW (k:List UInt8) (hk:k.length=32):∃l,keyOf Tryz.prog 24 (.agg (AM k))=some l:=by
 have hsz:(AM k).size=32:=by simp[AM,hk]
 have hf:Value.formed Tryz.prog 24 (.agg (AM k))=true:=by
  unfold Value.formed;simp only[Tryz.underlying24,Rq,hsz];rfl
 have hl:∀n,Tryz.prog.keyLits (n+2) 24 (AM k).toList=some (((List.range 32).map fun i => [Lit.int .u8 ((k.getD i 0).toNat:Int)]).flatten):=fun n=>by
  unfold Program.keyLits;simp only[Tryz.underlying24];rw[if_pos (by rw[Rq,Array.length_toList,hsz]),Pz (g:=fun i => [Lit.int .u8 ((k.getD i 0).toNat:Int)])]
  · rfl
  intro i hi;have hi:i<32:=List.mem_range.1 hi
  have hg:((AM k).toList.drop (i*Tryz.prog.cellsOf 5)).take (Tryz.prog.cellsOf 5) = [bv (k.getD i 0)]:=by
   rw[T8,Nat.mul_one];have h1:i<(AM k).toList.length:=by rw[Array.length_toList,hsz];exact hi
   rw[List.drop_eq_getElem_cons h1];have:=EB (l:=k) (i:=i) (by omega);rw[Array.getElem?_eq_getElem (by rw[hsz];exact hi)] at this;injection this with this;simp[this]
  rw[hg];unfold Program.keyLits;simp only[Tryz.underlying5,bv];have:=(k.getD i 0).toNat_lt;rw[if_pos ⟨trivial,WalkArith.wf_u8 ⟨by omega,by omega⟩⟩]
 unfold keyOf;simp only[Tryz.underlying24,TS,hf];obtain⟨m,hm⟩:∃m,Tryz.prog.types.size+1=m+2:=⟨Tryz.prog.types.size-1,by have:1≤Tryz.prog.types.size:=of_decide_eq_true (by kernel_rfl);omega⟩
 rw[hm];have e:=hl m
 show ∃l,Option.map _ (Tryz.prog.keyLits (m+2) 24 (AM k).toList)=some l
 rw[e];exact⟨_,rfl⟩
noncomputable abbrev Wq:Value→Option (DataW Value×List MemPlace):=plainElem Tryz.prog 4
noncomputable def kl (k:List UInt8):Lit:=if h:k.length=32 then Classical.choose (KW k h) else .bool false
theorem IV {k:List UInt8} (hk:k.length=32):keyOf Tryz.prog 24 (.agg (AM k))=some (kl k):=by
 unfold kl;rw[dif_pos hk];exact Classical.choose_spec (KW k hk)
theorem St {a b:List UInt8} (h:AM a=AM b):a=b:=by
 have h2:a.map bv=b.map bv:=by have:=congrArg Array.toList h;simpa[AM] using this
 refine List.map_inj_right (fun x y e=>?_) |>.1 h2;simp only[bv,Value.int.injEq,true_and] at e;exact UInt8.toNat_inj.1 (by omega)
theorem V3 {a b:List UInt8} (ha:a.length=32) (hb:b.length=32) (h:kl a=kl b):a=b:=by
 have:=To.inj (IV ha) (by rw[h];exact IV hb);injection this with this;exact St this
theorem Tf {k:List UInt8} (hk:k.length=32):WideAt.IsKeyLit (kl k):=To.key (IV hk)
def X0 (w:World) (b n:Nat) (S:List (List UInt8)):Prop:=∃D,w.ownsMap Tryz.prog 24 Wq b n D∧∀k:List UInt8,k.length=32→D.atKey (kl k) (.lit (.bool false))=.lit (.bool (decide (k∈S)))
end Go.Proofs.YtooijgcildbnlaaGreat.Store
namespace Go.Proofs.YtooijgcildbnlaaGreat.BE
open Go.RowKit Go.Sort Go.Proofs.YtooijgcildbnlaaGreat.ShaW Go.Proofs.YtooijgcildbnlaaGreat.Path Go.Proofs.YtooijgcildbnlaaGreat.Store
def YV (a:Option Addr) (cap i:Nat):Option Addr:=if cap=i then a else a.map (·.add (i*33))
def PC:Pr:=⟨List.replicate 32 0,.slice none 0 0,[]⟩
theorem N1:(Tryz.prog.info? 141).bind (·.zero)=some (.agg PC.cells):=by kernel_rfl
def W0 (l:List Pr):Prop:=l.length≤4096∧(∀x∈l,x.val.length≤1024)∧(l.map (·.key)).Nodup
def seen (l:List Pr) (k:Nat):List (List UInt8):=((l.take k).map (·.key)).reverse
theorem BP {P:Program} {S:World→Prop} {Q:Exit→Act→World→Prop} {l:List Oper} {n i:Nat} {r:List (Nat×Bool)} {a:Act} {w:World} {o:Oper} (ho:l[i]?=some o) (hw:Region.wanted o (yielded l.toArray a.tmps)=true) (ty:TypeId) (x:Operand) (hop:o.op=.load ty x) (g off k:Nat) (hx:a.eval x=.pointer (some ⟨g,off,none⟩))
 {t:TypeId} {cur:Array Value} {fr:Nat×Nat} {d:TypeDesc} (hg:∀w0,S w0→w0.heap[g]?=some (.cells cur t fr)) (hu:P.underlying ty=some d) (hd:d.isRow=true) (hi:(P.info? ty).map (·.size)=some k) (hfit:off+k≤cur.size) (cs:Array Value) (hv:cur.extract off (off+k)=cs)
 (h:Bd P l Q S n r (a.put o.dst (.agg cs)) w):Bd P l Q S n ((i,false)::r) a w :=
 plan_look ho hw (fun w0 hS=>by
  unfold execOp;simp only[hop,hx,Instr.loadAt,Instr.sureAddr,Sem.run_bind,Sem.run_pure,Result.andThen_ok,Bf w0 (hg w0 hS) hu hd hi hfit,hv]) h
theorem Kh {w:World} {ao:Option Addr} {l:List Wm} (cap:Nat) (h:CY w ao l) (hn:l.length≤4096) (d:Nat) (hd:d<256) :
 Calls Tryz.prog 256 #[.slice ao l.length cap,.int .i64 (d:Int)] w fun e w'=>Adds w w'∧∃n:Nat,e=.returned (.int .i64 n)∧n≤l.length∧(∀i x,i<n→l[i]?=some x→AS x.key d=0)∧(∀x,l[n]?=some x→AS x.key d=1):=by
 obtain⟨len,hlen⟩:∃len,len=l.length:=⟨_,rfl⟩
 rw[←hlen] at hn ⊢;have HL:=Lib.hid hlen;have HP:=Lib.hid h;have HD:=Lib.hid hd;clear h hlen hd;go_enter Tryz.func256,Tryz.ntmps256;go_wp2;go_loopg [5] len (fun g s5 wr=>∃k:Nat,s5=.int .i64 k∧k+g=len∧(∀i x,i<k→l[i]?=some x→AS x.key d=0)∧Adds w wr)
 case atStart=>exact⟨0,rfl,by omega,fun i x hi=>absurd hi (Nat.not_lt_zero _),Ch.refl _ _⟩
 obtain⟨k,rfl,hk,h0,hA⟩:=hrel;have HA:=Lib.hid hA;have H0:=Lib.hid h0;have HKG:=Lib.hid hk;clear hA h0;by_cases hkl:k=len
 · have hx1:decide ((k:Int)<(len:Int))=false:=decide_eq_false (by omega)
   have hx1':decide (k<len)=false:=decide_eq_false (by omega);have HKL:=Lib.hid hkl;clear hk hkl;go_wp2;go_ret
   exact⟨HA.out,k,rfl,by have:=HKL.out;omega,H0.out,fun x hx=>by
    have:=(List.getElem?_eq_some_iff.1 hx).1;have:=HKL.out;have:=HL.out;omega⟩
 have hx1:decide ((k:Int)<(len:Int))=true:=decide_eq_true (by omega);have hx1':decide (k<len)=true:=decide_eq_true (by omega);have hkl':k<l.length:=by have:=HL.out;omega
 have hklen:(k:Int)<(len:Int):=by omega
 have hklen':k<len:=by omega
 obtain⟨x,hx⟩:∃x,l[k]?=some x:=⟨_,List.getElem?_eq_getElem hkl'⟩
 obtain⟨g0,off,rfl,hp⟩:=HP.out.row k x hx;have hg:=HP.out.good x (List.mem_of_getElem? hx);have hsz:=Wm.size hg.key;obtain⟨cur,ty,fr,c1,c2,c3⟩:=hp;rw[hsz] at c2 c3;obtain⟨ck,_⟩:=NJ hg.key c3;have hb:=Ft x.key hg.key d wr;rw[Ct HD.out] at hb;obtain⟨K,hK⟩:∃K,K=AM x.key:=⟨_,rfl⟩
 rw[←hK] at ck hb;have HC:=(hIq (HA.out.row c1 id) (aIq c2 ck))
 have HX:=Lib.hid hx;have HB:=Lib.hid hb;have hlt:=Aq x.key d;obtain⟨b,hbb⟩:∃b,b=AS x.key d:=⟨_,rfl⟩
 rw[←hbb] at hlt HB;have HBB:=Lib.hid hbb;clear hk hkl hg hsz c1 c2 c3 ck hK hx hb hbb;rcases hlt with rfl|rfl
 · go_wp2_with (first
    | fail
    | ((with_reducible show zOq (.load 24 _));refine AF rfl 24 _ rfl g0 (off+k*34) rfl HC.out.1 Tryz.underlying24 rfl AW (by have:=HC.out.2.1;omega) K HC.out.2.2 ?_)
    | ((with_reducible show zOq (.load 24 _));refine Ax (by first|rfl|(simp[Region.wanted];done)) 24 _ rfl g0 (off+k*34) rfl HC.out.1 Tryz.underlying24 rfl AW (by have:=HC.out.2.1;omega) K HC.out.2.2 ?_))
   refine HB.out.mono ?_;rintro e w2 ⟨rfl,a2⟩;have A2:=Lib.hid (HA.out.trans a2 (fun _=>fEq));clear a2;go_wp2;go_roundg (gk-1)
   case measure=>have:=HKG.out;omega
   exact⟨k+1,rfl,by have:=HKG.out;omega,fun i y hi hy=>by
    rcases Nat.lt_or_ge i k with h|h
    · exact H0.out i y h hy
    have:i=k:=by omega
    subst this;have hx:=HX.out;rw[hx] at hy;cases hy;exact HBB.out.symm,A2.out⟩
 go_wp2_with (first
  | fail
  | ((with_reducible show zOq (.load 24 _));refine AF rfl 24 _ rfl g0 (off+k*34) rfl HC.out.1 Tryz.underlying24 rfl AW (by have:=HC.out.2.1;omega) K HC.out.2.2 ?_)
  | ((with_reducible show zOq (.load 24 _));refine Ax (by first|rfl|(simp[Region.wanted];done)) 24 _ rfl g0 (off+k*34) rfl HC.out.1 Tryz.underlying24 rfl AW (by have:=HC.out.2.1;omega) K HC.out.2.2 ?_))
 refine HB.out.mono ?_;rintro e w2 ⟨rfl,a2⟩;have A2:=Lib.hid (HA.out.trans a2 (fun _=>fEq));clear a2;go_wp2;go_ret
 exact⟨A2.out,k,rfl,by omega,H0.out,fun y hy=>by
  have hx:=HX.out;rw[hx] at hy;cases hy;exact HBB.out.symm⟩
section
variable {w0 w : World} {s : Nat} {σ : AD Nd} {G : Nat→Prop}
theorem Ms (h:Ow w0 w s σ G) (n:Int):Calls Tryz.prog 253 #[.pointer (some ⟨s,0,none⟩),.int .i64 n] w fun e w'=>e=.returned (.int .i64 n)∧Ow w0 w' s (Au σ n) G∧But G w w':=by
 by_cases h0:n=0
 · have e:Au σ n=σ:=by unfold Au;rw[if_neg (by simpa using h0)]
   rw[e];have H:=Lib.hid h;clear h e;go_enter Tryz.func253,Tryz.ntmps253;go_wp2;go_ret;exact⟨rfl,H.out,Ch.refl _ _⟩
 have e:Au σ n=(BC σ n).2:=by unfold Au;rw[if_pos h0]
 rw[e];have HO:=Lib.hid (h.hold n);clear h e;go_enter Tryz.func253,Tryz.ntmps253;go_wp2_with fail;refine HO.out.mono ?_;rintro e w1 ⟨rfl,o1,b1⟩;have H1:=(hIq o1 b1)
 clear o1 b1;go_wp2;go_ret;exact⟨rfl,H1.out⟩
theorem LN (h:Ow w0 w s σ G) (d l r:Int):Calls Tryz.prog 257 #[.pointer (some ⟨s,0,none⟩),.int .i64 d,.int .i64 l,.int .i64 r] w fun e w'=>e=.returned (.int .i64 (G7 σ d l r).1)∧Ow w0 w' s (G7 σ d l r).2 G∧But G w w':=by
 obtain⟨F,hAt⟩:=h.at;have hkl:=fun w1 (a:Adds w w1) n=>E4 (hAt.adds a) n
 have hin:=fun w1 (a:Adds w w1)=>(h.adds a).inner d l r
 have hz:(nd σ 0).kind=0:=rfl;have H:=Lib.hid h;have HK:=Lib.hid hkl;have HI:=Lib.hid hin;obtain⟨kr,hkr⟩:∃k,k=(nd σ r).kind:=⟨_,rfl⟩
 obtain⟨kl,hkl2⟩:∃k,k=(nd σ l).kind:=⟨_,rfl⟩
 have HKR:=(hIq hkr hkl2)
 unfold G7;rw[←hkr, ←hkl2];by_cases h1:l=0
 · subst h1
   by_cases h2:kr=2
   · have hr:¬r=0:=fun e=>by rw[e,hz] at hkr;omega
     rw[if_neg (fun h=>h.2 h2),if_neg (fun h=>hr h.1)];have t2:((kr:Nat):Int)=2:=by omega
     clear h hkl hin hz hkr hkl2 hAt h2;go_enter Tryz.func257,Tryz.ntmps257;go_wp2_with fail;refine(HK.out w (Ch.refl _ _) r).mono ?_;rintro e w1 ⟨rfl,a1⟩;rw[←HKR.out.1,t2];have A1:=Lib.hid a1;clear a1;go_wp2_with fail;refine(HI.out _ A1.out).mono ?_;rintro e w2 ⟨rfl,o2,b2⟩;have H2:=(hIq o2 ((Adds.but A1.out).then b2))
     clear o2 b2;go_wp2;go_ret;exact⟨rfl,H2.out⟩
   rw[if_pos ⟨rfl,h2⟩];have t2:¬((kr:Nat):Int)=2:=by omega
   clear h hkl hin hz hkr hkl2 hAt h2;go_enter Tryz.func257,Tryz.ntmps257;go_wp2_with fail;refine(HK.out w (Ch.refl _ _) r).mono ?_;rintro e w1 ⟨rfl,a1⟩;rw[←HKR.out.1];have A1:=Lib.hid a1;clear a1;go_wp2;go_ret;exact⟨rfl,H.out.adds A1.out,Adds.but A1.out⟩
 rw[if_neg (fun h=>h1 h.1)];by_cases h0:r=0
 · subst h0
   by_cases h2:kl=2
   · rw[if_neg (fun h=>h.2 h2)]
     have t2:((kl:Nat):Int)=2:=by omega
     clear h hkl hin hz hkr hkl2 hAt h2;go_enter Tryz.func257,Tryz.ntmps257;go_wp2_with fail;refine(HK.out w (Ch.refl _ _) l).mono ?_;rintro e w1 ⟨rfl,a1⟩;rw[←HKR.out.2,t2];have A1:=Lib.hid a1;clear a1;go_wp2_with fail;refine(HI.out _ A1.out).mono ?_;rintro e w2 ⟨rfl,o2,b2⟩;have H2:=(hIq o2 ((Adds.but A1.out).then b2))
     clear o2 b2;go_wp2;go_ret;exact⟨rfl,H2.out⟩
   rw[if_pos ⟨rfl,h2⟩];have t2:¬((kl:Nat):Int)=2:=by omega
   clear h hkl hin hz hkr hkl2 hAt h2;go_enter Tryz.func257,Tryz.ntmps257;go_wp2_with fail;refine(HK.out w (Ch.refl _ _) l).mono ?_;rintro e w1 ⟨rfl,a1⟩;rw[←HKR.out.2];have A1:=Lib.hid a1;clear a1;go_wp2;go_ret;exact⟨rfl,H.out.adds A1.out,Adds.but A1.out⟩
 rw[if_neg (fun h=>h0 h.1)];clear h hkl hin hz hkr hkl2 hAt;go_enter Tryz.func257,Tryz.ntmps257;go_wp2_with fail;refine(HI.out _ (Ch.refl _ _)).mono ?_;rintro e w2 ⟨rfl,o2,b2⟩;have H2:=(hIq o2 b2)
 clear o2 b2;go_wp2;go_ret;exact⟨rfl,H2.out⟩
end
end Go.Proofs.YtooijgcildbnlaaGreat.BE
namespace Go.Proofs.YtooijgcildbnlaaGreat.Store
open Go.RowKit
theorem BQ {P:Program} {C:Code} {Q:Exit→Act→World→Prop} {a:Act} {w:World} (h:∀w0,w0=w→C.wp P Q a w0):C.wp P Q a w:=h w rfl
theorem OF {P:Program} (w:World) (t e:TypeId) (ie:TypeInfo) (z v u:Value) (hu:P.underlying t=some (.slice e)) (hie:P.info? e=some ie) (hz:ie.zero=some z) (hsmall:ie.size≤65536) (hpos:0<ie.size) (hv:v.cells.size=ie.size) (hu2:u.cells.size=ie.size) :
 (Instr.buildSlice t 2 #[(0,v),(1,u)]).run P w=.ok (.slice (some ⟨w.heap.size,0,none⟩) 2 2) (w.alloc (.cells (v.cells++u.cells) e)):=by
 refine run_buildSlice w t e 2 #[(0,v),(1,u)] (v.cells++u.cells) ie z hu hie hz (by omega) (by omega) ?_
 show Instr.fill _ _ [(0,v),(1,u)]=_
 rw[Af (off:=0) (size:=ie.size) (by simp) hv (by simp;omega)];rw[Af (off:=ie.size) (size:=ie.size) (by simp) hu2 (by simp[splice,hv];omega)];simp only[Instr.fill,splice,Option.some.injEq];apply Array.ext';simp[hv,hu2];omega
theorem Kk {P:Program} {w:World} {ops:Array Oper} {rest:List Oper} {o:Oper} {a:Act} {Q:Exit→Act→World→Prop} (hgd:o.guard=none) (t:TypeId) (x y:Operand) (ho:o.op=.buildSlice t 2 #[(0,x),(1,y)])
 (e:TypeId) (ie:TypeInfo) (z v u:Value) (hx:a.eval x=v) (hy:a.eval y=u) (hu:P.underlying t=some (.slice e)) (hie:P.info? e=some ie) (hz:ie.zero=some z) (hsmall:ie.size≤65536) (hpos:0<ie.size) (hv:v.cells.size=ie.size) (hu2:u.cells.size=ie.size)
 (h:wpList P ops Q rest (a.put o.dst (.slice (some ⟨w.heap.size,0,none⟩) 2 2)) (w.alloc (.cells (v.cells++u.cells) e))):wpList P ops Q (o::rest) a w :=
 wpList_plain hgd fun _ hK=>by
  unfold Oper.wp execOp;have:=OF w t e ie z v u hu hie hz hsmall hpos hv hu2;simp only[ho,List.map_toArray,List.map_cons,List.map_nil,hx,hy,Sem.run_bind,this,Result.andThen_ok];exact hK _ _ h
theorem LH {A B C Z:List Value} {n:Nat} (hA:A.length=n) (hB:B.length=n) (hC:C.length=n) (hZ:Z.length=3*n) :
 List.take (2*n) (A++(B++List.drop (n+n) (A++List.drop n Z)))++(C++List.drop (2*n+n) (A++(B++List.drop (n+n) (A++List.drop n Z))))=A++(B++C):=by
 have e1:List.drop (n+n) (A++List.drop n Z)=List.drop (2*n) Z:=by
  rw[List.drop_append,List.drop_eq_nil_of_le (by omega),hA,List.nil_append,List.drop_drop]
  congr 1
  omega
 rw[e1, ←List.append_assoc A B,List.take_left' (by rw[List.length_append];omega),List.drop_eq_nil_of_le (by simp only[List.length_append,List.length_drop];omega),List.append_nil,List.append_assoc]
theorem Nn {P:Program} (w:World) (t e:TypeId) (ie:TypeInfo) (z v u x:Value) (hu:P.underlying t=some (.slice e)) (hie:P.info? e=some ie) (hz:ie.zero=some z) (hsmall:ie.size≤65536) (hpos:0<ie.size) (hv:v.cells.size=ie.size) (hu2:u.cells.size=ie.size) (hx2:x.cells.size=ie.size) :
 (Instr.buildSlice t 3 #[(0,v),(1,u),(2,x)]).run P w=.ok (.slice (some ⟨w.heap.size,0,none⟩) 3 3) (w.alloc (.cells (v.cells++u.cells++x.cells) e)):=by
 refine run_buildSlice w t e 3 #[(0,v),(1,u),(2,x)] (v.cells++u.cells++x.cells) ie z hu hie hz (by omega) (by omega) ?_
 show Instr.fill _ _ [(0,v),(1,u),(2,x)]=_
 rw[Af (off:=0) (size:=ie.size) (by simp) hv (by simp;omega)];rw[Af (off:=ie.size) (size:=ie.size) (by simp) hu2 (by simp[splice,hv];omega)];rw[Af (off:=2*ie.size) (size:=ie.size) (by simp) hx2 (by simp[splice,hv,hu2];omega)];simp only[Instr.fill,splice,Option.some.injEq];apply Array.ext';simp[hv,hu2,hx2];exact LH (by simp[hv]) (by simp[hu2]) (by simp[hx2]) (by simp)
theorem Kc {P:Program} {w:World} {ops:Array Oper} {rest:List Oper} {o:Oper} {a:Act} {Q:Exit→Act→World→Prop} (hgd:o.guard=none) (t:TypeId) (x y q:Operand) (ho:o.op=.buildSlice t 3 #[(0,x),(1,y),(2,q)])
 (e:TypeId) (ie:TypeInfo) (z v u r:Value) (hx:a.eval x=v) (hy:a.eval y=u) (hq:a.eval q=r) (hu:P.underlying t=some (.slice e)) (hie:P.info? e=some ie) (hz:ie.zero=some z) (hsmall:ie.size≤65536) (hpos:0<ie.size) (hv:v.cells.size=ie.size) (hu2:u.cells.size=ie.size) (hr2:r.cells.size=ie.size)
 (h:wpList P ops Q rest (a.put o.dst (.slice (some ⟨w.heap.size,0,none⟩) 3 3)) (w.alloc (.cells (v.cells++u.cells++r.cells) e))):wpList P ops Q (o::rest) a w :=
 wpList_plain hgd fun _ hK=>by
  unfold Oper.wp execOp;have:=Nn w t e ie z v u r hu hie hz hsmall hpos hv hu2 hr2;simp only[ho,List.map_toArray,List.map_cons,List.map_nil,hx,hy,hq,Sem.run_bind,this,Result.andThen_ok];exact hK _ _ h
end Go.Proofs.YtooijgcildbnlaaGreat.Store
namespace Go.Proofs.YtooijgcildbnlaaGreat.BE
open Go.RowKit Go.Sort Go.Proofs.YtooijgcildbnlaaGreat.ShaW Go.Proofs.YtooijgcildbnlaaGreat.Path Go.Proofs.YtooijgcildbnlaaGreat.Store
structure WmsG (G:Nat→Prop) (w:World) (ao:Option Addr) (l:List Wm):Prop where
 at_:CY w ao l
 row:l ≠ []→∃a,ao=some a∧G a.block
 vals:∀x∈l,x.val ≠ []→∀k,x.vv.ownBlock=some k→G k
section
variable {G : Nat→Prop} {w w' : World} {ao : Option Addr} {l : List Wm}
theorem WmsG.but (h:WmsG G w ao l) (hb:But G w w'):WmsG G w' ao l:=by
 refine⟨⟨fun x hx=>?_,fun i x hi=>?_⟩,h.row,h.vals⟩
 · have hg:=h.at_.good x hx
   exact⟨hg.key,hg.val.Jh hb (fun h0 k hk hf=>hf (h.vals x hx h0 k hk)),fun h0 k hk=>Nat.lt_of_lt_of_le (hg.blk h0 k hk) hb.size⟩
 obtain⟨g,off,rfl,h3⟩:=h.at_.row i x hi;obtain⟨a,e,hG⟩:=h.row (fun e=>by rw[e] at hi;simp at hi);injection e with e;subst e;exact⟨g,off,rfl,h3.An hb (fun hf=>hf hG)⟩
theorem WmsG.take (h:WmsG G w ao l) (n:Nat):WmsG G w ao (l.take n) :=
 ⟨h.at_.take n,fun e=>h.row (fun e2=>e (by rw[e2];simp)),fun x hx=>h.vals x (List.mem_of_mem_take hx)⟩
theorem WmsG.drop (h:WmsG G w ao l) (n cap:Nat) (hc:l.length≤cap):WmsG G w (M8 34 ao cap n) (l.drop n):=by
 refine⟨h.at_.drop n cap hc,fun e=>?_,fun x hx=>h.vals x (List.mem_of_mem_drop hx)⟩
 have hn:n<l.length:=by
  rcases Nat.lt_or_ge n l.length with h1|h1
  · exact h1
  exact absurd (List.drop_eq_nil_of_le h1) e
 obtain⟨a,rfl,hG⟩:=h.row (fun e2=>by rw[e2] at hn;simp at hn);unfold M8;rw[if_neg (by omega)];refine⟨_,rfl,?_⟩;unfold Addr.add;split<;>exact hG
end
def Bl (σ:AD Nd) (o:Int):Option (List UInt8×List UInt8):=if (nd σ o).kind=1 then some ((nd σ o).key,(nd σ o).value) else none
theorem Oc {σ σ':AD Nd} {o:Int} (h0:o=0∨∃x,sk σ o=some x) (h:∀k x,sk σ k=some x→sk σ' k=some x) (hz:sk σ' 0=none):Bl σ' o=Bl σ o:=by
 unfold Bl;rcases h0 with rfl|⟨x,hx⟩
 · rfl
 have h2:=h o x hx;rw[CR hx,CR h2,Cm hx,Cm h2,DH hx,DH h2]
def Bo (e:Option (List UInt8×List UInt8)) (L:AQ):Nat:=L.countP fun p=>decide (e≠some p)
theorem PR (e:Option (List UInt8×List UInt8)) (d:Nat) (L:AQ):Bo e (sideE 0 d L)+Bo e (sideE 1 d L)=Bo e L:=by
 induction L with
 | nil=>rfl
 | cons p L ih =>
  have c:∀M:AQ,Bo e (p::M)=Bo e M+(if decide (e≠some p)=true then 1 else 0):=fun M=>List.countP_cons ..
  rcases Aq p.1 d with hb|hb
  · have e0:sideE 0 d (p::L)=p::sideE 0 d L:=by simp[sideE,hb]
    have e1:sideE 1 d (p::L)=sideE 1 d L:=by simp[sideE,hb]
    rw[e0,e1,c,c];omega
  have e0:sideE 0 d (p::L)=sideE 0 d L:=by simp[sideE,hb]
  have e1:sideE 1 d (p::L)=p::sideE 1 d L:=by simp[sideE,hb]
  rw[e0,e1,c,c];omega
theorem QG {e:Option (List UInt8×List UInt8)} {L:AQ} (hn:(keysOf L).Nodup) (h2:2≤L.length):1≤Bo e L:=by
 match L,hn,h2 with
 | p::q::R,hn,_ =>
  unfold Bo;rw[List.countP_cons,List.countP_cons];by_cases h1:e=some p
  · have h3:e≠some q:=fun e2=>by
     rw[h1] at e2;injection e2 with e2;subst e2;simp[keysOf] at hn
    rw[if_pos (c:=decide (e≠some q)=true) (by simpa using h3)];omega
  rw[if_pos (c:=decide (e≠some p)=true) (by simpa using h1)];omega
theorem Jw (e:Option (List UInt8×List UInt8)) (L:AQ):Bo e L≤L.length:=List.countP_le_length
theorem Sv {e:Option (List UInt8×List UInt8)} {L:AQ} (hn:(keysOf L).Nodup):L.length≤Bo e L+1:=by
 induction L with
 | nil=>simp
 | cons p L ih =>
  have h2:(keysOf L).Nodup:=(List.nodup_cons.1 hn).2;have h3:=ih h2;unfold Bo at h3 ⊢;rw[List.countP_cons,List.length_cons];by_cases h1:e=some p
  · have hp:p.1∉keysOf L:=(List.nodup_cons.1 hn).1
    have:L.countP (fun p=>decide (e≠some p))=L.length:=by
     rw[List.countP_eq_length];intro q hq;have:p≠q:=fun e2=>hp (by rw[e2];exact List.mem_map_of_mem hq)
     rw[h1];simpa using this
    rw[this];omega
  rw[if_pos (c:=decide (e≠some p)=true) (by simpa using h1)];omega
end Go.Proofs.YtooijgcildbnlaaGreat.BE
