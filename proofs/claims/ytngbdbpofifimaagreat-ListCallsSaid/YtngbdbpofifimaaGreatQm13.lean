/- Laws of the layers below. -/
import Derived.Test.YtngbdbpofifimaaGreatQm12
import Derived.Lib.Bytealg
import Derived.Sort.Statements
import Derived.Laws.BytesArg
import Derived.Laws.Externs
import Derived.Sort.Grow
import Derived.Test.YtngbdbpofifimaaGreatQm11
import Derived.Deep.Cut
import Derived.Deep.DeepCutAuto
set_option maxHeartbeats 3200000
set_option maxRecDepth 100000
set_option linter.unusedVariables false
namespace Go.Proofs.YtngbdbpofifimaaGreat.Store
open Go.RowKit Go.Proofs.YtngbdbpofifimaaGreat.ShaW Go.Proofs.YtngbdbpofifimaaGreat.Path
theorem Hw {a b:UInt8}:a<b↔a.toNat<b.toNat:=UInt8.lt_iff_toNat_lt
theorem Wy {a b:UInt8}:a=b↔a.toNat=b.toNat:=UInt8.toNat_inj.symm
theorem II (n j:Nat) (hj:j<8):n / 2 ^ (7-j)=2*(n / 2 ^ (8-j))+n / 2 ^ (7-j) % 2:=by
 have:n / 2 ^ (8-j)=n / 2 ^ (7-j) / 2:=by
  rw[Nat.div_div_eq_div_mul, ←Nat.pow_succ,Nat.succ_eq_add_one,show 7-j+1=8-j by omega]
 omega
theorem Je (x y:UInt8):∀j,j≤8→(∀i,i<j→Ck x i=Ck y i)→x.toNat / 2 ^ (8-j)=y.toNat / 2 ^ (8-j)
 | 0,_,_=>by
  have a:=x.toNat_lt;have b:=y.toNat_lt;rw[Nat.div_eq_of_lt (by simpa using a),Nat.div_eq_of_lt (by simpa using b)]
 | j+1,hj,h=>by
  have ih:=Je x y j (by omega) (fun i hi=>h i (by omega));have e:=h j (by omega);unfold Ck at e;have a:=II x.toNat j (by omega);have b:=II y.toNat j (by omega);rw[show 8-(j+1)=7-j by omega,a,b,ih,e]
theorem T7 (x y:UInt8) (j:Nat) (hj:j<8) (h:∀i,i<j→Ck x i=Ck y i) (hx:Ck x j=0) (hy:Ck y j=1):x<y:=by
 rw[Hw];have e:=Je x y j (by omega) h;have a:=II x.toNat j hj;have b:=II y.toNat j hj;unfold Ck at hx hy;rw[hx,e] at a;rw[hy] at b;rcases Nat.lt_or_ge x.toNat y.toNat with g|g
 · exact g
 have:=Nat.div_le_div_right (c:=2 ^ (7-j)) g;omega
theorem Px (x y:UInt8) (h:∀i,i<8→Ck x i=Ck y i):x=y:=by
 rw[Wy];have e:=Je x y 8 (Nat.le_refl _) h;simpa using e
theorem Em (x:UInt8) (l:List UInt8) {d:Nat} (h:d<8):Ao (x::l) d=Ck x d:=by
 unfold Ao;rw[Nat.div_eq_of_lt h,Nat.mod_eq_of_lt h];rfl
theorem IU (x:UInt8) (l:List UInt8) (d:Nat):Ao (x::l) (d+8)=Ao l d:=by
 unfold Ao;rw[Nat.add_div_right _ (by omega),Nat.add_mod_right];rfl
theorem Dw:∀(a b:List UInt8) (d:Nat),a.length=b.length→d<8*a.length→Pre a b d→Ao a d=0→Ao b d=1→Lib.compareBytes a b = -1
 | [],_,d,_,h,_,_,_=>absurd h (by simp)
 | _::_,[],_,h,_,_,_,_=>absurd h (by simp)
 | x::l,y::m,d,hl,hd,hp,ha,hb=>by
  by_cases h8:d<8
  · rw[Em x l h8] at ha
    rw[Em y m h8] at hb;have:=T7 x y d h8 (fun i hi=>by have:=hp i hi;rwa [Em x l (by omega),Em y m (by omega)] at this) ha hb;unfold Lib.compareBytes;rw[if_pos this]
  obtain⟨e,rfl⟩:∃e,d=e+8:=⟨d-8,by omega⟩
  rw[IU] at ha hb;have hxy:=Px x y (fun i hi=>by have:=hp i (by omega);rwa [Em x l hi,Em y m hi] at this);subst hxy;unfold Lib.compareBytes;rw[if_neg (UInt8.lt_irrefl x),if_neg (UInt8.lt_irrefl x)];refine Dw l m e (by simpa using hl) (by simp at hd;omega) (fun i hi=>?_) ha hb;have:=hp (i+8) (by omega)
  rwa [IU,IU] at this
theorem F7:∀a:List UInt8,Lib.compareBytes a a=0
 | []=>rfl
 | x::l=>by
  unfold Lib.compareBytes;rw[if_neg (UInt8.lt_irrefl x),if_neg (UInt8.lt_irrefl x)];exact F7 l
theorem CP:∀a b c:List UInt8,Lib.compareBytes a b<0→Lib.compareBytes b c<0→Lib.compareBytes a c<0
 | [],[],c,h,_=>absurd h (by decide)
 | [],_::_,[],_,h=>absurd h (by simp[Lib.compareBytes])
 | [],_::_,_::_,_,_=>by simp[Lib.compareBytes]
 | _::_,[],_,h,_=>absurd h (by simp[Lib.compareBytes])
 | _::_,_::_,[],_,h=>absurd h (by simp[Lib.compareBytes])
 | x::a,y::b,z::c,h1,h2=>by
  have ih:=CP a b c;unfold Lib.compareBytes at h1 h2 ⊢;simp only[Hw] at h1 h2 ⊢;by_cases e1:x.toNat<y.toNat
  · by_cases e2:y.toNat<z.toNat
    · rw[if_pos (by omega)];decide
    rw[if_neg e2] at h2;by_cases e3:z.toNat<y.toNat
    · rw[if_pos e3] at h2;exact absurd h2 (by decide)
    rw[if_pos (by omega)];decide
  rw[if_neg e1] at h1;by_cases e0:y.toNat<x.toNat
  · rw[if_pos e0] at h1;exact absurd h1 (by decide)
  rw[if_neg e0] at h1;by_cases e2:y.toNat<z.toNat
  · rw[if_pos (by omega)];decide
  rw[if_neg e2] at h2;by_cases e3:z.toNat<y.toNat
  · rw[if_pos e3] at h2;exact absurd h2 (by decide)
  rw[if_neg e3] at h2;rw[if_neg (by omega),if_neg (by omega)];exact ih h1 h2
theorem IF:∀a b c:List UInt8,¬Lib.compareBytes a b<0→¬Lib.compareBytes b c<0→¬Lib.compareBytes a c<0
 | [],[],c,_,h=>h
 | [],_::_,_,h,_=>absurd (by simp[Lib.compareBytes]) h
 | _::_,[],[],_,_=>by simp[Lib.compareBytes]
 | _::_,[],_::_,_,h=>absurd (by simp[Lib.compareBytes]) h
 | _::_,_::_,[],_,_=>by simp[Lib.compareBytes]
 | x::a,y::b,z::c,h1,h2=>by
  have ih:=IF a b c;unfold Lib.compareBytes at h1 h2 ⊢;simp only[Hw] at h1 h2 ⊢;by_cases e1:x.toNat<y.toNat
  · rw[if_pos e1] at h1;exact absurd (by decide) h1
  rw[if_neg e1] at h1;by_cases e2:y.toNat<z.toNat
  · rw[if_pos e2] at h2;exact absurd (by decide) h2
  rw[if_neg e2] at h2;rw[if_neg (by omega)];by_cases e0:y.toNat<x.toNat
  · rw[if_pos (by omega)];decide
  rw[if_neg e0] at h1;by_cases e3:z.toNat<y.toNat
  · rw[if_pos (by omega)];decide
  rw[if_neg e3] at h2;rw[if_neg (by omega)];exact ih h1 h2
def XU (L:Av):Prop:=L.Pairwise fun p q=>¬Lib.compareBytes q.1 p.1<0
end Go.Proofs.YtngbdbpofifimaaGreat.Store
namespace Go.Proofs.YtngbdbpofifimaaGreat.Path
open Go.RowKit Go.Sort
theorem Iv (a b:ByteArray) (w:World):Calls Tryz.prog 303 #[.string a,.string b] w fun e w'=>e=.returned (.int .i64 (Lib.compareBytes a.data.toList b.data.toList))∧w=w':=by
 go_enter Tryz.func303,Tryz.ntmps303;go_wp2;rw[run_callFunc_extern Tryz.func331 (by kernel_rfl) (by kernel_rfl) (by kernel_rfl) (e:=Extern.BytealgCompare.compare) (by kernel_rfl),Lib.run_compareString];simp only[Result.andThen];rw[Oper.upon_value];go_wp2;go_ret;exact⟨rfl,rfl⟩
theorem K3 (a b:ByteArray) (w:World):Calls Tryz.prog 266 #[.string a,.string b] w fun e w'=>e=.returned (.int .i64 (Lib.compareBytes a.data.toList b.data.toList))∧w=w':=by
 have h:=Iv a b w;generalize Lib.compareBytes a.data.toList b.data.toList=r at h ⊢;go_enter Tryz.func266,Tryz.ntmps266;go_wp2_with fail;refine h.mono ?_;rintro e w1 ⟨rfl,rfl⟩;go_wp2;go_ret;exact⟨rfl,rfl⟩
def DX (x:List UInt8):List Int:=x.map fun b=>(b.toNat:Int)
theorem Kc (x:List UInt8):(strOfNums (DX x)).data.toList=x:=by
 rw[strOfNums_data];unfold DX;rw[List.map_map]
 conv=>rhs;rw[←List.map_id x]
 refine List.map_congr_left fun b _=>?_
 simp
theorem Kz {w:World} {g1 g2 c1 c2:Nat} {t1 t2:TypeId} {f1 f2:Nat×Nat} (x y:List UInt8) (hx:w.heap[g1]?=some (.cells (AS x) t1 f1)) (hy:w.heap[g2]?=some (.cells (AS y) t2 f2)) :
 Calls Tryz.prog 233 #[.slice (some ⟨g1,0,none⟩) x.length c1,.slice (some ⟨g2,0,none⟩) y.length c2] w fun e w'=>e=.returned (.int .i64 (Lib.compareBytes x y))∧w=w':=by
 have get:∀(z:List UInt8) (i:Nat),i<z.length→(AS z)[i]?=some (.int .u8 ((DX z).getD i 0)):=fun z i hi=>by
  rw[Dd hi];simp[DX,bv,hi]
 have r1:(convert 29 9 (.slice (some ⟨g1,0,none⟩) x.length c1)).run Tryz.prog w=.ok (.string (strOfNums (DX x))) w :=
  run_convert_bytes_arg w _ _ Tryz.underlying29 Tryz.underlying5 g1 0 x.length c1 (DX x) (by simp[DX]) (fun i hi=>by rw[Nat.zero_add];exact AH hx (get x i hi)) _ Tryz.underlying9
 have r2:(convert 29 9 (.slice (some ⟨g2,0,none⟩) y.length c2)).run Tryz.prog w=.ok (.string (strOfNums (DX y))) w :=
  run_convert_bytes_arg w _ _ Tryz.underlying29 Tryz.underlying5 g2 0 y.length c2 (DX y) (by simp[DX]) (fun i hi=>by rw[Nat.zero_add];exact AH hy (get y i hi)) _ Tryz.underlying9
 have h:=K3 (strOfNums (DX x)) (strOfNums (DX y)) w;rw[Kc,Kc] at h;generalize Lib.compareBytes x y=r at h ⊢;generalize strOfNums (DX x)=s1 at r1 h;generalize strOfNums (DX y)=s2 at r2 h;clear get hx hy;go_enter Tryz.func233,Tryz.ntmps233;go_wp2_with fail;refine h.mono ?_;rintro e w1 ⟨rfl,rfl⟩;go_wp2;go_ret;exact⟨rfl,rfl⟩
theorem Od (a b:List UInt8) (ha:a.length=32) (hb:b.length=32) (w:World) :
 Calls Tryz.prog 164 #[.agg (AS a),.agg (AS b)] w fun e w'=>e=.returned (.int .i64 (Lib.compareBytes a b))∧∃q os,w'=grow (w.drewN q) os:=by
 obtain⟨A,hA⟩:∃A,A=AS a:=⟨_,rfl⟩
 obtain⟨B,hB⟩:∃B,B=AS b:=⟨_,rfl⟩
 have g1:((w.alloc (.cells A 47)).alloc (.cells B 47)).drew.heap[w.heap.size]?=some (.cells A 47 (0,0)):=AM (AQ (heap_alloc_new _ _) _)
 have g2:((w.alloc (.cells A 47)).alloc (.cells B 47)).drew.heap[w.heap.size+1]?=some (.cells B 47 (0,0)):=by
  have:=heap_alloc_new (w.alloc (.cells A 47)) (.cells B 47);exact AM (by simpa using this)
 have h:=Kz (c1:=32) (c2:=32) a b (by rw[←hA];exact g1) (by rw[←hB];exact g2);rw[ha,hb] at h;rw[←hA, ←hB];have hs0:∀w0:World,(Instr.sliceAt 47 (.pointer (some ⟨w.heap.size,0,none⟩)) none none none).run Tryz.prog w0=.ok (.slice (some ⟨w.heap.size,0,none⟩) 32 32) w0:=fun w0=>DS w0 47 32 (by kernel_rfl) (by kernel_rfl) (by kernel_rfl) _ _
 have hs1:∀w0:World,(Instr.sliceAt 47 (.pointer (some ⟨w.heap.size+1,0,none⟩)) none none none).run Tryz.prog w0=.ok (.slice (some ⟨w.heap.size+1,0,none⟩) 32 32) w0:=fun w0=>DS w0 47 32 (by kernel_rfl) (by kernel_rfl) (by kernel_rfl) _ _
 generalize Lib.compareBytes a b=r at h ⊢;have H:=Lib.hid h;clear g1 g2 hA hB h;go_enter Tryz.func164,Tryz.ntmps164;go_wp2;refine AP (fun w0=>w0=((w.alloc (.cells A 47)).alloc (.cells B 47)).drew) 2 [(0,false),(1,false)] (by kernel_rfl) (by kernel_rfl) rfl ?_
 iterate 2 refine plan_look rfl rfl (fun w0 hS=>(by subst hS;go_simp;try rfl)) ?_
 refine AZ ?_;simp only[List.drop_succ_cons,List.drop_zero,Act.put,List.setIfInBounds_toArray,List.set_cons_succ,List.set_cons_zero];go_wp2_with fail;refine H.out.mono ?_;rintro e w1 ⟨rfl,rfl⟩;go_wp2;refine NoPanic.normal ?_;go_wp2;go_ret;exact⟨rfl,1, #[.cells A 47,.cells B 47],by rw[alloc_eq_grow,alloc_eq_grow,grow_grow];rfl⟩
end Go.Proofs.YtngbdbpofifimaaGreat.Path
namespace Go.Proofs.YtngbdbpofifimaaGreat.Path
open Go.RowKit
theorem MA:∀(p x y:List UInt8),Lib.compareBytes (p++x) (p++y)=Lib.compareBytes x y
 | [],_,_=>rfl
 | c::p,x,y=>by
  have h:¬c<c:=UInt8.lt_irrefl c
  show(if c<c then (-1:Int) else if c<c then 1 else Lib.compareBytes (p++x) (p++y))=_
  rw[if_neg h,if_neg h];exact MA p x y
theorem V6 {a b:List UInt8} {i:Nat} {x y:UInt8} (ht:a.take i=b.take i) (hx:a[i]?=some x) (hy:b[i]?=some y) :
 (x<y→Lib.compareBytes a b = -1)∧(y<x→Lib.compareBytes a b=1):=by
 obtain⟨h1,h2⟩:=List.getElem?_eq_some_iff.1 hx;obtain⟨h3,h4⟩:=List.getElem?_eq_some_iff.1 hy;have ha:a=a.take i++x::a.drop (i+1):=by rw[←h2, ←List.drop_eq_getElem_cons h1];exact(List.take_append_drop i a).symm
 have hb:b=a.take i++y::b.drop (i+1):=by rw[ht, ←h4, ←List.drop_eq_getElem_cons h3];exact(List.take_append_drop i b).symm
 have e:Lib.compareBytes a b=Lib.compareBytes (x::a.drop (i+1)) (y::b.drop (i+1)):=by
  generalize a.drop (i+1)=s at ha ⊢;generalize b.drop (i+1)=t at hb ⊢;generalize a.take i=p at ha hb;rw[ha,hb];exact MA p _ _
 rw[e];unfold Lib.compareBytes;refine⟨fun h=>if_pos h,fun h=>?_⟩;rw[if_neg (UInt8.lt_asymm h),if_pos h]
theorem Ml (a:List UInt8):Lib.compareBytes a a=0:=by
 have:=MA a [] [];rw[List.append_nil] at this;exact this
theorem Er (a b:List UInt8) (ha:a.length=32) (hb:b.length=32) (w:World) :
 Calls Tryz.prog 166 #[.agg (AS a),.agg (AS b)] w fun e w'=>e=.returned (.int .i64 (Lib.compareBytes a b))∧Ch (fun _=>False) w w':=by
 have hga:=fun(i:Nat) (x:UInt8) (h:a[i]?=some x)=>EV h
 have hgb:=fun(i:Nat) (x:UInt8) (h:b[i]?=some x)=>EV h
 obtain⟨A,hA⟩:∃A,A=AS a:=⟨_,rfl⟩
 obtain⟨B,hB⟩:∃B,B=AS b:=⟨_,rfl⟩
 have hAs:A.size=32:=by rw[hA,AU,ha]
 have hBs:B.size=32:=by rw[hB,AU,hb]
 rw[←hA] at hga ⊢;rw[←hB] at hgb ⊢;obtain⟨cv,hcv⟩:∃cv,cv=Lib.compareBytes a b:=⟨_,rfl⟩
 rw[←hcv];have g1:((w.alloc (.cells A 34)).alloc (.cells B 34)).heap[w.heap.size]?=some (.cells A 34 (0,0)):=AQ (heap_alloc_new _ _) _
 have g2:((w.alloc (.cells A 34)).alloc (.cells B 34)).heap[w.heap.size+1]?=some (.cells B 34 (0,0)):=by
  have:=heap_alloc_new (w.alloc (.cells A 34)) (.cells B 34);simpa using this
 have had:Ch (fun _=>False) w ((w.alloc (.cells A 34)).alloc (.cells B 34)):=((Ch.refl _ _).alloc _).alloc _;have HA:=(hIq hAs hga)
 have HB:=(hIq hBs hgb)
 have G:=(hIq g1 (aIq g2 had))
 have HLA:=(hIq ha (aIq hb hcv))
 clear hA hB hAs hBs g1 g2 ha hb hga hgb had hcv;go_enter Tryz.func166,Tryz.ntmps166;go_wp2_with fail;go_loopg [5] (32) (fun g s5 wr=>∃i:Nat,i≤32∧g=32-i∧s5=.int .i64 (i:Int)∧a.take i=b.take i∧wr.heap[w.heap.size]?=some (.cells A 34 (0,0))∧wr.heap[w.heap.size+1]?=some (.cells B 34 (0,0))∧Ch (fun _=>False) w wr)
 case atStart=>exact⟨0,Nat.zero_le _,rfl,rfl,rfl,G.out.1,G.out.2.1,G.out.2.2⟩
 obtain⟨i,hi,rfl,rfl,hp,h1,h2,hch⟩:=hrel;have HH:=(hIq hp (aIq hch (aIq h1 h2)))
 clear hp hch h1 h2;by_cases hlt:i<32
 · have p1:decide ((i:Int)<32)=true:=decide_eq_true (by omega)
   have p2:(i:Int)<32:=by omega
   obtain⟨x,hx⟩:∃x,a[i]?=some x:=⟨_,List.getElem?_eq_getElem (by have:=HLA.out.1;omega)⟩
   obtain⟨y,hy⟩:∃y,b[i]?=some y:=⟨_,List.getElem?_eq_getElem (by have:=HLA.out.2.1;omega)⟩
   have hc:=V6 HH.out.1 hx hy;have hax:=HA.out.2 i x hx;have hby:=HB.out.2 i y hy;unfold bv at hax hby;obtain⟨xi,hxi⟩:∃n:Nat,n=x.toNat:=⟨_,rfl⟩
   obtain⟨yi,hyi⟩:∃n:Nat,n=y.toNat:=⟨_,rfl⟩
   rw[←hxi] at hax;rw[←hyi] at hby;have hxy:xi<yi→cv = -1:=fun h=>HLA.out.2.2.trans (hc.1 (UInt8.lt_iff_toNat_lt.2 (by omega)))
   have hyx:yi<xi→cv=1:=fun h=>HLA.out.2.2.trans (hc.2 (UInt8.lt_iff_toNat_lt.2 (by omega)))
   have heq:xi=yi→x=y:=fun h=>UInt8.toNat_inj.1 (by omega)
   have HX:=(hIq hx (aIq hy (aIq hax (aIq hby (aIq hxy (aIq hyx heq))))))
   clear hx hy hc hax hby hxi hyi hxy hyx heq;go_upto_region 4 with fail;refine AP (fun wz=>wz.heap[w.heap.size]?=some (.cells A 34 (0,0))∧wz.heap[w.heap.size+1]?=some (.cells B 34 (0,0))) 7 [(0,false),(1,false),(2,false),(3,false),(4,false),(5,false),(6,false)] (by kernel_rfl) (by kernel_rfl) ?_ ?_
   · exact⟨AM HH.out.2.2.1,AM HH.out.2.2.2⟩
   iterate 2
    refine plan_look rfl rfl (fun w0 hS=>(by clear hS;go_simp;try rfl)) ?_;simp only[Act.put,nAq,nBq,nCq]
   refine plan_look (v:=.int .u8 (xi:Int)) rfl rfl (fun w0 hS=>(by have e0:=AH hS.1 HX.out.2.2.1;clear hS;go_simp;try rfl)) ?_;simp only[Act.put,nAq,nBq,nCq]
   iterate 2
    refine plan_look rfl rfl (fun w0 hS=>(by clear hS;go_simp;try rfl)) ?_;simp only[Act.put,nAq,nBq,nCq]
   refine plan_look (v:=.int .u8 (yi:Int)) rfl rfl (fun w0 hS=>(by have e0:=AH hS.2 HX.out.2.2.2.1;clear hS;go_simp;try rfl)) ?_;simp only[Act.put,nAq,nBq,nCq];refine plan_look (v:=.bool (decide ((xi:Int)<(yi:Int)))) rfl rfl (fun w0 hS=>(by clear hS;go_simp;try rfl)) ?_;simp only[Act.put,nAq,nBq,nCq];refine AZ ?_;simp only[List.drop_succ_cons,List.drop_zero];by_cases hl:xi<yi
   · rw[decide_eq_true (show(xi:Int)<yi by omega)]
     go_wp2;refine NoPanic.normal ?_;go_wp2;go_ret;exact⟨by rw[HX.out.2.2.2.2.1 hl];rfl,HH.out.2.1.drew⟩
   rw[decide_eq_false (show ¬(xi:Int)<yi by omega)];go_wp2;refine NoPanic.normal ?_;go_upto_region 6 with fail;refine AP (fun wz=>wz.heap[w.heap.size]?=some (.cells A 34 (0,0))∧wz.heap[w.heap.size+1]?=some (.cells B 34 (0,0))) 7 [(0,false),(1,false),(2,false),(3,false),(4,false),(5,false),(6,false)] (by kernel_rfl) (by kernel_rfl) ?_ ?_
   · exact⟨AM (AM HH.out.2.2.1),AM (AM HH.out.2.2.2)⟩
   iterate 2
    refine plan_look rfl rfl (fun w0 hS=>(by clear hS;go_simp;try rfl)) ?_;simp only[Act.put,nAq,nBq,nCq]
   refine plan_look (v:=.int .u8 (xi:Int)) rfl rfl (fun w0 hS=>(by have e0:=AH hS.1 HX.out.2.2.1;clear hS;go_simp;try rfl)) ?_;simp only[Act.put,nAq,nBq,nCq]
   iterate 2
    refine plan_look rfl rfl (fun w0 hS=>(by clear hS;go_simp;try rfl)) ?_;simp only[Act.put,nAq,nBq,nCq]
   refine plan_look (v:=.int .u8 (yi:Int)) rfl rfl (fun w0 hS=>(by have e0:=AH hS.2 HX.out.2.2.2.1;clear hS;go_simp;try rfl)) ?_;simp only[Act.put,nAq,nBq,nCq];refine plan_look (v:=.bool (decide ((yi:Int)<(xi:Int)))) rfl rfl (fun w0 hS=>(by clear hS;go_simp;try rfl)) ?_;simp only[Act.put,nAq,nBq,nCq];refine AZ ?_;simp only[List.drop_succ_cons,List.drop_zero];by_cases hg:yi<xi
   · rw[decide_eq_true (show(yi:Int)<xi by omega)]
     go_wp2;refine NoPanic.normal ?_;go_wp2;go_ret;exact⟨by rw[HX.out.2.2.2.2.2.1 hg];rfl,HH.out.2.1.drew.drew⟩
   rw[decide_eq_false (show ¬(yi:Int)<xi by omega)];go_wp2;refine NoPanic.normal ?_;go_wp2;go_roundg (32-(i+1))
   case measure=>omega
   refine⟨i+1,by omega,rfl,by first|rfl|go_num,?_,AM (AM HH.out.2.2.1),AM (AM HH.out.2.2.2),HH.out.2.1.drew.drew⟩;rw[List.take_add_one,List.take_add_one,HH.out.1,HX.out.1,HX.out.2.1,HX.out.2.2.2.2.2.2 (by omega)]
 have he:i=32:=by omega
 subst he;have p1:decide (((32:Nat):Int)<32)=false:=by decide
 go_wp2;go_ret;refine⟨?_,HH.out.2.1⟩;have h1:=HH.out.1;rw[List.take_of_length_le (by have:=HLA.out.1;omega),List.take_of_length_le (by have:=HLA.out.2.1;omega)] at h1;rw[HLA.out.2.2,h1,Ml]
 try rfl
end Go.Proofs.YtngbdbpofifimaaGreat.Path
namespace Go.Proofs.YtngbdbpofifimaaGreat.Store
open Go.RowKit Go.Proofs.YtngbdbpofifimaaGreat.ShaW Go.Proofs.YtngbdbpofifimaaGreat.Path
theorem QN {l r:Nd} (hl:l.Ok) (hr:r.Ok) (d left right:Int) (hd0:0≤d) (hd1:d≤255) (h0:left=0) (h1:right=0) (w:World) :
 Calls Tryz.prog 250 #[.int .i64 d,.int .i64 left,.int .i64 right,l.enc,r.enc] w fun e w'=>e=.returned (.bool false)∧AN w w':=by
 have fl:=C6 hl d 0 hd0 hd1;have fr:=C6 hr d 1 hd0 hd1;have kl:=Nd.Ar hl;have kr:=Nd.Ar hr;have xl:=Nd.Be hl;have xr:=Nd.Be hr;have sl:=Nd.AY hl;have sr:=Nd.AY hr;have hcm:=CX l.key r.key hl.key hr.key;unfold Nd.enc at fl fr ⊢;obtain⟨L,hL⟩:∃L,L=l.cells:=⟨_,rfl⟩
 obtain⟨R,hR⟩:∃R,R=r.cells:=⟨_,rfl⟩
 obtain⟨KL,hKL⟩:∃KL,KL=AS l.key:=⟨_,rfl⟩
 obtain⟨KR,hKR⟩:∃KR,KR=AS r.key:=⟨_,rfl⟩
 rw[←hL] at fl kl xl sl;rw[←hR] at fr kr xr sr;rw[←hL, ←hR];rw[←hKL] at xl hcm;rw[←hKR] at xr hcm;clear hL hR hKL hKR hl hr;have al:=Df w L R;have ar:=Cx w L R;subst h0 h1;have SL:=(hIq sl xl)
 have SR:=(hIq sr xr)
 have FL:=Lib.hid fl;have FR:=Lib.hid fr;have AL:=Lib.hid al;have AR:=Lib.hid ar;have CM:=Lib.hid hcm;clear fl fr kl kr xl xr sl sr hcm al ar;go_enter Tryz.func250,Tryz.ntmps250;go_wp2;go_ret;exact⟨rfl,(D3 w _ _)⟩
theorem Kt {l r:Nd} (hl:l.Ok) (hr:r.Ok) (d left right:Int) (hd0:0≤d) (hd1:d≤255) (h0:left=0) (h1:right≠0) (hk:r.kind≠2) (w:World) :
 Calls Tryz.prog 250 #[.int .i64 d,.int .i64 left,.int .i64 right,l.enc,r.enc] w fun e w'=>e=.returned (.bool false)∧AN w w':=by
 have fl:=C6 hl d 0 hd0 hd1;have fr:=C6 hr d 1 hd0 hd1;have kl:=Nd.Ar hl;have kr:=Nd.Ar hr;have xl:=Nd.Be hl;have xr:=Nd.Be hr;have sl:=Nd.AY hl;have sr:=Nd.AY hr;have hcm:=CX l.key r.key hl.key hr.key;unfold Nd.enc at fl fr ⊢;obtain⟨L,hL⟩:∃L,L=l.cells:=⟨_,rfl⟩
 obtain⟨R,hR⟩:∃R,R=r.cells:=⟨_,rfl⟩
 obtain⟨KL,hKL⟩:∃KL,KL=AS l.key:=⟨_,rfl⟩
 obtain⟨KR,hKR⟩:∃KR,KR=AS r.key:=⟨_,rfl⟩
 rw[←hL] at fl kl xl sl;rw[←hR] at fr kr xr sr;rw[←hL, ←hR];rw[←hKL] at xl hcm;rw[←hKR] at xr hcm;clear hL hR hKL hKR hl hr;have al:=Df w L R;have ar:=Cx w L R;subst h0;have c0:=AH ar kr;have hkk:((r.kind:Nat):Int)≠2:=by omega
 have e1:(((r.kind:Nat):Int) == 2)=false:=by simpa using hkk
 have e3:(right == 0)=false:=by simpa using h1
 have e4:decide (right=0)=false:=by simpa using h1
 have e2:decide (((r.kind:Nat):Int)=2)=false:=by simpa using hkk
 have SL:=(hIq sl xl)
 have SR:=(hIq sr xr)
 have FL:=Lib.hid fl;have FR:=Lib.hid fr;have AL:=Lib.hid al;have AR:=Lib.hid ar;have CM:=Lib.hid hcm;clear fl fr kl kr xl xr sl sr hcm al ar;go_enter Tryz.func250,Tryz.ntmps250;go_wp2;go_ret;exact⟨rfl,(D3 w _ _)⟩
theorem Oi {l r:Nd} (hl:l.Ok) (hr:r.Ok) (d left right:Int) (hd0:0≤d) (hd1:d≤255) (h0:left=0) (h1:right≠0) (hk:r.kind=2) (w:World) :
 Calls Tryz.prog 250 #[.int .i64 d,.int .i64 left,.int .i64 right,l.enc,r.enc] w fun e w'=>e=.returned (.bool (CO r d 1))∧AN w w':=by
 have fl:=C6 hl d 0 hd0 hd1;have fr:=C6 hr d 1 hd0 hd1;have kl:=Nd.Ar hl;have kr:=Nd.Ar hr;have xl:=Nd.Be hl;have xr:=Nd.Be hr;have sl:=Nd.AY hl;have sr:=Nd.AY hr;have hcm:=CX l.key r.key hl.key hr.key;unfold Nd.enc at fl fr ⊢;obtain⟨L,hL⟩:∃L,L=l.cells:=⟨_,rfl⟩
 obtain⟨R,hR⟩:∃R,R=r.cells:=⟨_,rfl⟩
 obtain⟨KL,hKL⟩:∃KL,KL=AS l.key:=⟨_,rfl⟩
 obtain⟨KR,hKR⟩:∃KR,KR=AS r.key:=⟨_,rfl⟩
 rw[←hL] at fl kl xl sl;rw[←hR] at fr kr xr sr;rw[←hL, ←hR];rw[←hKL] at xl hcm;rw[←hKR] at xr hcm;clear hL hR hKL hKR hl hr;have al:=Df w L R;have ar:=Cx w L R;subst h0;rw[hk] at kr;have c0:=AH ar kr;have e3:(right == 0)=false:=by simpa using h1
 have e4:decide (right=0)=false:=by simpa using h1
 generalize CO r d 1=bb at *;clear hk;have SL:=(hIq sl xl)
 have SR:=(hIq sr xr)
 have FL:=Lib.hid fl;have FR:=Lib.hid fr;have AL:=Lib.hid al;have AR:=Lib.hid ar;have CM:=Lib.hid hcm;clear fl fr kl kr xl xr sl sr hcm al ar;go_enter Tryz.func250,Tryz.ntmps250;go_wp2_with fail;refine Bw 168 _ rfl (w.heap.size+1) 0 rfl AR.out Tryz.underlying168 rfl BW (by rw[SR.out.1];omega) R (by simp[←SR.out.1]) ?_;go_wp2_with fail;refine(FR.out _).mono ?_;rintro e w1 ⟨rfl,hc1⟩;have C1:=Lib.hid hc1;clear hc1;go_wp2;go_ret;exact⟨rfl,(D3 w _ _).trans C1.out (fun _=>fEq)⟩
theorem MS {l r:Nd} (hl:l.Ok) (hr:r.Ok) (d left right:Int) (hd0:0≤d) (hd1:d≤255) (h0:left≠0) (h1:right=0) (hk:l.kind≠2) (w:World) :
 Calls Tryz.prog 250 #[.int .i64 d,.int .i64 left,.int .i64 right,l.enc,r.enc] w fun e w'=>e=.returned (.bool false)∧AN w w':=by
 have fl:=C6 hl d 0 hd0 hd1;have fr:=C6 hr d 1 hd0 hd1;have kl:=Nd.Ar hl;have kr:=Nd.Ar hr;have xl:=Nd.Be hl;have xr:=Nd.Be hr;have sl:=Nd.AY hl;have sr:=Nd.AY hr;have hcm:=CX l.key r.key hl.key hr.key;unfold Nd.enc at fl fr ⊢;obtain⟨L,hL⟩:∃L,L=l.cells:=⟨_,rfl⟩
 obtain⟨R,hR⟩:∃R,R=r.cells:=⟨_,rfl⟩
 obtain⟨KL,hKL⟩:∃KL,KL=AS l.key:=⟨_,rfl⟩
 obtain⟨KR,hKR⟩:∃KR,KR=AS r.key:=⟨_,rfl⟩
 rw[←hL] at fl kl xl sl;rw[←hR] at fr kr xr sr;rw[←hL, ←hR];rw[←hKL] at xl hcm;rw[←hKR] at xr hcm;clear hL hR hKL hKR hl hr;have al:=Df w L R;have ar:=Cx w L R;subst h1;have c0:=AH al kl;have hkk:((l.kind:Nat):Int)≠2:=by omega
 have e1:(((l.kind:Nat):Int) == 2)=false:=by simpa using hkk
 have e3:(left == 0)=false:=by simpa using h0
 have e4:decide (left=0)=false:=by simpa using h0
 have e2:decide (((l.kind:Nat):Int)=2)=false:=by simpa using hkk
 have SL:=(hIq sl xl)
 have SR:=(hIq sr xr)
 have FL:=Lib.hid fl;have FR:=Lib.hid fr;have AL:=Lib.hid al;have AR:=Lib.hid ar;have CM:=Lib.hid hcm;clear fl fr kl kr xl xr sl sr hcm al ar;go_enter Tryz.func250,Tryz.ntmps250;go_wp2;go_ret;exact⟨rfl,(D3 w _ _)⟩
theorem Qw {l r:Nd} (hl:l.Ok) (hr:r.Ok) (d left right:Int) (hd0:0≤d) (hd1:d≤255) (h0:left≠0) (h1:right=0) (hk:l.kind=2) (w:World) :
 Calls Tryz.prog 250 #[.int .i64 d,.int .i64 left,.int .i64 right,l.enc,r.enc] w fun e w'=>e=.returned (.bool (CO l d 0))∧AN w w':=by
 have fl:=C6 hl d 0 hd0 hd1;have fr:=C6 hr d 1 hd0 hd1;have kl:=Nd.Ar hl;have kr:=Nd.Ar hr;have xl:=Nd.Be hl;have xr:=Nd.Be hr;have sl:=Nd.AY hl;have sr:=Nd.AY hr;have hcm:=CX l.key r.key hl.key hr.key;unfold Nd.enc at fl fr ⊢;obtain⟨L,hL⟩:∃L,L=l.cells:=⟨_,rfl⟩
 obtain⟨R,hR⟩:∃R,R=r.cells:=⟨_,rfl⟩
 obtain⟨KL,hKL⟩:∃KL,KL=AS l.key:=⟨_,rfl⟩
 obtain⟨KR,hKR⟩:∃KR,KR=AS r.key:=⟨_,rfl⟩
 rw[←hL] at fl kl xl sl;rw[←hR] at fr kr xr sr;rw[←hL, ←hR];rw[←hKL] at xl hcm;rw[←hKR] at xr hcm;clear hL hR hKL hKR hl hr;have al:=Df w L R;have ar:=Cx w L R;subst h1;rw[hk] at kl;have c0:=AH al kl;have e3:(left == 0)=false:=by simpa using h0
 have e4:decide (left=0)=false:=by simpa using h0
 generalize CO l d 0=bb at *;clear hk;have SL:=(hIq sl xl)
 have SR:=(hIq sr xr)
 have FL:=Lib.hid fl;have FR:=Lib.hid fr;have AL:=Lib.hid al;have AR:=Lib.hid ar;have CM:=Lib.hid hcm;clear fl fr kl kr xl xr sl sr hcm al ar;go_enter Tryz.func250,Tryz.ntmps250;go_wp2_with fail;refine Bw 168 _ rfl w.heap.size 0 rfl AL.out Tryz.underlying168 rfl BW (by rw[SL.out.1];omega) L (by simp[←SL.out.1]) ?_;go_wp2_with fail;refine(FL.out _).mono ?_;rintro e w1 ⟨rfl,hc1⟩;have C1:=Lib.hid hc1;clear hc1;go_wp2;go_ret;exact⟨rfl,(D3 w _ _).trans C1.out (fun _=>fEq)⟩
theorem N5 {l r:Nd} (hl:l.Ok) (hr:r.Ok) (d left right:Int) (hd0:0≤d) (hd1:d≤255) (h0:left≠0) (h1:right≠0) (hk:CO l d 0=false) (w:World) :
 Calls Tryz.prog 250 #[.int .i64 d,.int .i64 left,.int .i64 right,l.enc,r.enc] w fun e w'=>e=.returned (.bool false)∧AN w w':=by
 have fl:=C6 hl d 0 hd0 hd1;have fr:=C6 hr d 1 hd0 hd1;have kl:=Nd.Ar hl;have kr:=Nd.Ar hr;have xl:=Nd.Be hl;have xr:=Nd.Be hr;have sl:=Nd.AY hl;have sr:=Nd.AY hr;have hcm:=CX l.key r.key hl.key hr.key;unfold Nd.enc at fl fr ⊢;obtain⟨L,hL⟩:∃L,L=l.cells:=⟨_,rfl⟩
 obtain⟨R,hR⟩:∃R,R=r.cells:=⟨_,rfl⟩
 obtain⟨KL,hKL⟩:∃KL,KL=AS l.key:=⟨_,rfl⟩
 obtain⟨KR,hKR⟩:∃KR,KR=AS r.key:=⟨_,rfl⟩
 rw[←hL] at fl kl xl sl;rw[←hR] at fr kr xr sr;rw[←hL, ←hR];rw[←hKL] at xl hcm;rw[←hKR] at xr hcm;clear hL hR hKL hKR hl hr;have al:=Df w L R;have ar:=Cx w L R;have e3:(left == 0)=false:=by simpa using h0
 have e4:decide (left=0)=false:=by simpa using h0
 have e5:(right == 0)=false:=by simpa using h1
 have e6:decide (right=0)=false:=by simpa using h1
 rw[hk] at fl;clear hk;have SL:=(hIq sl xl)
 have SR:=(hIq sr xr)
 have FL:=Lib.hid fl;have FR:=Lib.hid fr;have AL:=Lib.hid al;have AR:=Lib.hid ar;have CM:=Lib.hid hcm;clear fl fr kl kr xl xr sl sr hcm al ar;go_enter Tryz.func250,Tryz.ntmps250;go_wp2_with fail;refine Bw 168 _ rfl w.heap.size 0 rfl AL.out Tryz.underlying168 rfl BW (by rw[SL.out.1];omega) L (by simp[←SL.out.1]) ?_;go_wp2_with fail;refine(FL.out _).mono ?_;rintro e w1 ⟨rfl,hc1⟩;have al1:=hc1.row AL.out id;have ar1:=hc1.row AR.out id;have hw1:=(D3 w _ _).trans hc1 (fun _=>fEq);have AL1:=Lib.hid al1;have AR1:=Lib.hid ar1;have W1:=Lib.hid hw1;clear hc1 al1 ar1 hw1;go_wp2;go_ret;exact⟨rfl,W1.out⟩
theorem Mh {l r:Nd} (hl:l.Ok) (hr:r.Ok) (d left right:Int) (hd0:0≤d) (hd1:d≤255) (h0:left≠0) (h1:right≠0) (hk:CO l d 0=true) (hm:CO r d 1=false) (w:World) :
 Calls Tryz.prog 250 #[.int .i64 d,.int .i64 left,.int .i64 right,l.enc,r.enc] w fun e w'=>e=.returned (.bool false)∧AN w w':=by
 have fl:=C6 hl d 0 hd0 hd1;have fr:=C6 hr d 1 hd0 hd1;have kl:=Nd.Ar hl;have kr:=Nd.Ar hr;have xl:=Nd.Be hl;have xr:=Nd.Be hr;have sl:=Nd.AY hl;have sr:=Nd.AY hr;have hcm:=CX l.key r.key hl.key hr.key;unfold Nd.enc at fl fr ⊢;obtain⟨L,hL⟩:∃L,L=l.cells:=⟨_,rfl⟩
 obtain⟨R,hR⟩:∃R,R=r.cells:=⟨_,rfl⟩
 obtain⟨KL,hKL⟩:∃KL,KL=AS l.key:=⟨_,rfl⟩
 obtain⟨KR,hKR⟩:∃KR,KR=AS r.key:=⟨_,rfl⟩
 rw[←hL] at fl kl xl sl;rw[←hR] at fr kr xr sr;rw[←hL, ←hR];rw[←hKL] at xl hcm;rw[←hKR] at xr hcm;clear hL hR hKL hKR hl hr;have al:=Df w L R;have ar:=Cx w L R;have e3:(left == 0)=false:=by simpa using h0
 have e4:decide (left=0)=false:=by simpa using h0
 have e5:(right == 0)=false:=by simpa using h1
 have e6:decide (right=0)=false:=by simpa using h1
 rw[hk] at fl;rw[hm] at fr;clear hk hm;have SL:=(hIq sl xl)
 have SR:=(hIq sr xr)
 have FL:=Lib.hid fl;have FR:=Lib.hid fr;have AL:=Lib.hid al;have AR:=Lib.hid ar;have CM:=Lib.hid hcm;clear fl fr kl kr xl xr sl sr hcm al ar;go_enter Tryz.func250,Tryz.ntmps250;go_wp2_with fail;refine Bw 168 _ rfl w.heap.size 0 rfl AL.out Tryz.underlying168 rfl BW (by rw[SL.out.1];omega) L (by simp[←SL.out.1]) ?_;go_wp2_with fail;refine(FL.out _).mono ?_;rintro e w1 ⟨rfl,hc1⟩;have al1:=hc1.row AL.out id;have ar1:=hc1.row AR.out id;have hw1:=(D3 w _ _).trans hc1 (fun _=>fEq);have AL1:=Lib.hid al1;have AR1:=Lib.hid ar1;have W1:=Lib.hid hw1;clear hc1 al1 ar1 hw1;go_wp2_with fail;refine Bw 168 _ rfl (w.heap.size+1) 0 rfl AR1.out Tryz.underlying168 rfl BW (by rw[SR.out.1];omega) R (by simp[←SR.out.1]) ?_;go_wp2_with fail;refine(FR.out _).mono ?_;rintro e w2 ⟨rfl,hc2⟩;have al2:=hc2.row AL1.out id;have ar2:=hc2.row AR1.out id;have hw2:=W1.out.trans hc2 (fun _=>fEq);have AL2:=Lib.hid al2;have AR2:=Lib.hid ar2;have W2:=Lib.hid hw2;clear hc2 al2 ar2 hw2;go_wp2;go_ret;exact⟨rfl,W2.out⟩
theorem QD {l r:Nd} (hl:l.Ok) (hr:r.Ok) (d left right:Int) (hd0:0≤d) (hd1:d≤255) (h0:left≠0) (h1:right≠0) (hk:CO l d 0=true) (hm:CO r d 1=true) (w:World) :
 Calls Tryz.prog 250 #[.int .i64 d,.int .i64 left,.int .i64 right,l.enc,r.enc] w fun e w'=>e=.returned (.bool (decide (d≤(common l.key r.key:Nat))))∧AN w w':=by
 have fl:=C6 hl d 0 hd0 hd1;have fr:=C6 hr d 1 hd0 hd1;have kl:=Nd.Ar hl;have kr:=Nd.Ar hr;have xl:=Nd.Be hl;have xr:=Nd.Be hr;have sl:=Nd.AY hl;have sr:=Nd.AY hr;have hcm:=CX l.key r.key hl.key hr.key;unfold Nd.enc at fl fr ⊢;obtain⟨L,hL⟩:∃L,L=l.cells:=⟨_,rfl⟩
 obtain⟨R,hR⟩:∃R,R=r.cells:=⟨_,rfl⟩
 obtain⟨KL,hKL⟩:∃KL,KL=AS l.key:=⟨_,rfl⟩
 obtain⟨KR,hKR⟩:∃KR,KR=AS r.key:=⟨_,rfl⟩
 rw[←hL] at fl kl xl sl;rw[←hR] at fr kr xr sr;rw[←hL, ←hR];rw[←hKL] at xl hcm;rw[←hKR] at xr hcm;clear hL hR hKL hKR hl hr;have al:=Df w L R;have ar:=Cx w L R;have e3:(left == 0)=false:=by simpa using h0
 have e4:decide (left=0)=false:=by simpa using h0
 have e5:(right == 0)=false:=by simpa using h1
 have e6:decide (right=0)=false:=by simpa using h1
 rw[hk] at fl;rw[hm] at fr;clear hk hm;generalize common l.key r.key=cc at *;have SL:=(hIq sl xl)
 have SR:=(hIq sr xr)
 have FL:=Lib.hid fl;have FR:=Lib.hid fr;have AL:=Lib.hid al;have AR:=Lib.hid ar;have CM:=Lib.hid hcm;clear fl fr kl kr xl xr sl sr hcm al ar;go_enter Tryz.func250,Tryz.ntmps250;go_wp2_with fail;refine Bw 168 _ rfl w.heap.size 0 rfl AL.out Tryz.underlying168 rfl BW (by rw[SL.out.1];omega) L (by simp[←SL.out.1]) ?_;go_wp2_with fail;refine(FL.out _).mono ?_;rintro e w1 ⟨rfl,hc1⟩;have al1:=hc1.row AL.out id;have ar1:=hc1.row AR.out id;have hw1:=(D3 w _ _).trans hc1 (fun _=>fEq);have AL1:=Lib.hid al1;have AR1:=Lib.hid ar1;have W1:=Lib.hid hw1;clear hc1 al1 ar1 hw1;go_wp2_with fail;refine Bw 168 _ rfl (w.heap.size+1) 0 rfl AR1.out Tryz.underlying168 rfl BW (by rw[SR.out.1];omega) R (by simp[←SR.out.1]) ?_;go_wp2_with fail;refine(FR.out _).mono ?_;rintro e w2 ⟨rfl,hc2⟩;have al2:=hc2.row AL1.out id;have ar2:=hc2.row AR1.out id;have hw2:=W1.out.trans hc2 (fun _=>fEq);have AL2:=Lib.hid al2;have AR2:=Lib.hid ar2;have W2:=Lib.hid hw2;clear hc2 al2 ar2 hw2
 go_wp2_with (first
  | ((with_reducible show zOq (.load 47 _));refine Bg (by first|rfl|(simp[Region.wanted];done)) 47 _ rfl w.heap.size 34 rfl AL2.out Tryz.underlying47 rfl Ab (by rw[SL.out.1];omega) KL SL.out.2 ?_)
  | ((with_reducible show zOq (.load 47 _));refine Bg (by first|rfl|(simp[Region.wanted];done)) 47 _ rfl (w.heap.size+1) 34 rfl AR2.out Tryz.underlying47 rfl Ab (by rw[SR.out.1];omega) KR SR.out.2 ?_))
 refine(CM.out _).mono ?_;rintro e w3 ⟨rfl,hc3⟩;have hw3:=W2.out.trans hc3 (fun _=>fEq);have W3:=Lib.hid hw3;clear hc3 hw3;go_wp2;go_ret;exact⟨rfl,W3.out⟩
end Go.Proofs.YtngbdbpofifimaaGreat.Store
