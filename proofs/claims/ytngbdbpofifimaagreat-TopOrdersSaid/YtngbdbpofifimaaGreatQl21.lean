/- Laws of the layers below. -/
import Derived.Test.YtngbdbpofifimaaGreatQl20
import Derived.Maps.OwnOps
import Derived.Maps.OwnSet
import Derived.DeepKeys4
import Derived.WalkArith
set_option maxHeartbeats 3200000
set_option maxRecDepth 100000
set_option linter.unusedVariables false
namespace Go.Proofs.YtngbdbpofifimaaGreat.Law9
open Go.RowKit Go.Sort Go.Proofs.YtngbdbpofifimaaGreat.ShaW Go.Proofs.YtngbdbpofifimaaGreat.Path Go.Proofs.YtngbdbpofifimaaGreat.Store
structure PrK where
 p:Pr
 len:p.key.length=32
 one:p.vv.oneCell'=true
instance:Inhabited PrK:=⟨⟨⟨List.replicate 32 0,.slice none 0 0,[]⟩,rfl,rfl⟩⟩
def FX (x:PrK):List Value:=x.p.cells.toList
theorem Jc (x:PrK):(FX x).length=33:=by rw[FX,Array.length_toList];exact Pr.size x.len
theorem VR (x:PrK):∀v∈FX x,v.oneCell'=true:=fun v hv=>by
 unfold FX at hv;rw[Pr.list] at hv;rcases List.mem_append.1 hv with h|h
 · exact DJ _ v h
 simp at h;rw[h];exact x.one
def Tu (x y:PrK):Int:=Lib.compareBytes x.p.key y.p.key
theorem ltP (x y:PrK):ltOf Tu x y=decide (Lib.compareBytes x.p.key y.p.key<0):=rfl
theorem bT:SWO (ltOf Tu) where
 irrefl x:=by rw[ltP,Hs];rfl
 trans x y z h1 h2:=by
  rw[ltP] at *;exact decide_eq_true (Gg _ _ _ (of_decide_eq_true h1) (of_decide_eq_true h2))
 ntrans x y z h1 h2:=by
  rw[ltP] at *;exact decide_eq_false (Et _ _ _ (of_decide_eq_false h1) (of_decide_eq_false h2))
theorem Lj (w:World) (os:Array Obj) (q:Nat):(grow w os).drewN q=grow (w.drewN q) os:=rfl
theorem Q4 (x y:PrK) (W:World):Calls Tryz.prog 269 #[.agg (FX x).toArray,.agg (FX y).toArray] W fun e w'=>e=.returned (.int .i64 (Tu x y))∧∃q os,w'=grow (W.drewN q) os:=by
 obtain⟨A,hA⟩:∃A,A=x.p.cells:=⟨_,rfl⟩
 obtain⟨B,hB⟩:∃B,B=y.p.cells:=⟨_,rfl⟩
 have hc:=Iz x.p.key y.p.key x.len y.len ((W.alloc (.cells A 86)).alloc (.cells B 86));have ka:=Pr.BX x.len;have kb:=Pr.BX y.len;have sa:=Pr.size x.len;have sb:=Pr.size y.len;unfold FX Tu;rw[Array.toArray_toList,Array.toArray_toList];rw[←hA] at ka sa ⊢;rw[←hB] at kb sb ⊢;obtain⟨KA,hKA⟩:∃K,K=AK x.p.key:=⟨_,rfl⟩
 obtain⟨KB,hKB⟩:∃K,K=AK y.p.key:=⟨_,rfl⟩
 rw[←hKA] at ka hc;rw[←hKB] at kb hc;generalize Lib.compareBytes x.p.key y.p.key=r at hc ⊢;have g1:((W.alloc (.cells A 86)).alloc (.cells B 86)).heap[W.heap.size]?=some (.cells A 86 (0,0)):=AM (heap_alloc_new _ _) _
 have g2:((W.alloc (.cells A 86)).alloc (.cells B 86)).heap[W.heap.size+1]?=some (.cells B 86 (0,0)):=by
  have:=heap_alloc_new (W.alloc (.cells A 86)) (.cells B 86);simpa using this
 have G1:=Lib.hid g1;have G2:=Lib.hid g2;have HC:=Lib.hid hc;have HK:=(hIq ka kb)
 have HS:=(hIq sa sb)
 clear hA hB hKA hKB g1 g2 hc ka kb sa sb;go_enter Tryz.func269,Tryz.ntmps269
 go_wp2_with (first
  | fail
  | ((with_reducible show zOq (.load 47 _));refine AG rfl 47 _ rfl W.heap.size 0 rfl G1.out Tryz.underlying47 rfl AY (by rw[HS.out.1];omega) KA HK.out.1 ?_)
  | ((with_reducible show zOq (.load 47 _));refine AG rfl 47 _ rfl (W.heap.size+1) 0 rfl G2.out Tryz.underlying47 rfl AY (by rw[HS.out.2];omega) KB HK.out.2 ?_))
 refine HC.out.mono ?_;rintro e w1 ⟨rfl,q,os,rfl⟩;go_wp2;go_ret;refine⟨rfl,q, #[.cells A 86,.cells B 86]++os,?_⟩;rw[alloc_eq_grow,alloc_eq_grow,grow_grow,Lj,grow_grow];rfl
theorem XV (blk off size:Nat) (w:World):CmpLays Tryz.prog 269 #[] FX 33 Tu blk off size w:=fun _ _ _ _ x y=>Q4 x y _
theorem P8 {w:World} {g:Nat} {t:TypeId} {cur:Array Value} {d:Array PrK} (hg:w.heap[g]?=some (.cells cur t (0,0))) (hx:∀i x,d[i]?=some x→i*33+33≤cur.size∧cur.extract (i*33) (i*33+33)=x.p.cells):HoldsK FX 33 w g 0 d:=by
 intro j hj;rw[size_flatK] at hj;have hi:j / 33<d.size:=by omega
 obtain⟨h1,h2⟩:=hx (j / 33) _ (Array.getElem?_eq_getElem hi);refine⟨?_,Al hg _⟩;rw[get_flatK FX 33 d j hj];have hm:j % 33<33:=Nat.mod_lt _ (by omega);have hs:=Pr.size (d[j / 33]).len
 have e1:cur[j]?=some (FX d[j / 33]!)[j % 33]!:=by
  have e2:(cur.extract (j / 33*33) (j / 33*33+33))[j % 33]?=cur[j]?:=by
   rw[Array.getElem?_extract,if_pos (by omega)]
   congr 1
   omega
  rw[←e2,h2,getElem!_pos d (j / 33) hi];unfold FX;rw[getElem!_pos _ _ (by rw[Array.length_toList,hs];exact hm),Array.getElem?_eq_getElem (by rw[hs];exact hm)];simp
 rw[Nat.zero_add];exact AH hg e1
theorem QI {w:World} {g:Nat} {d:Array PrK} (h:HoldsK FX 33 w g 0 d) {i:Nat} {x:PrK} (hx:d[i]?=some x):CX w g (0+i*33) x.p.cells:=by
 have hi:=(Array.getElem?_eq_some_iff.1 hx).1;have hd:d[i]! = x:=by rw[getElem!_pos d i hi];exact(Array.getElem?_eq_some_iff.1 hx).2
 have:=CX.ID (w:=w) (g:=g) (o:=0+i*33) (m:=33) (cs:=FX x) (by omega) (Jc x) (fun c hc=>by
  have h1:=h (i*33+c) (by rw[size_flatK];omega);rw[get_flatK FX 33 d _ (by omega),show(i*33+c) / 33=i by omega,show(i*33+c) % 33=c by omega,hd] at h1;rw[show 0+i*33+c=0+(i*33+c) by omega];rw[h1.1,List.getElem?_eq_getElem (by rw[Jc];exact hc),getElem!_pos _ _ (by rw[Jc];exact hc)];rfl)
 rwa [FX,Array.toArray_toList] at this
theorem Tc (w:World) (g n:Nat) (d':Array PrK) (os:Array Obj):Ch (fun k=>k=g) w (sortWorldK FX 33 w g 0 n d' os):=by
 unfold sortWorldK grow putRowK Go.Sort.putRow Go.Sort.mapBlock Go.Sort.ahead;refine⟨rfl,rfl,rfl,by simp,fun k hk hn=>?_⟩;simp only[Array.getElem?_append,Array.size_modify,hk,if_true,Array.getElem?_modify];rw[if_neg (fun e=>hn e.symm)]
theorem Yf {w:World} {g cap:Nat} {d:Array PrK} (hH:HoldsK FX 33 w g 0 d) (hg:g<w.heap.size) (hn:d.size<4611686018427387904) :
 Calls Tryz.prog 268 #[.slice (some ⟨g,0,none⟩) d.size cap,.func (.func 269) #[] #[]] w fun e w'=>e=.returned (.tuple #[]) ∧
  ∃d':Array PrK,d'.size=d.size∧d'.toList.Perm d.toList∧d'.toList.Pairwise (fun x y=>¬Lib.compareBytes y.p.key x.p.key<0)∧HoldsK FX 33 w' g 0 d'∧Ch (fun k=>k=g) w w':=by
 have eg:∀args w,(callFunc 269 args).run Tryz.prog w=.ok (.enter 269 args) w:=enters_of Tryz.func269 (by kernel_rfl) rfl;have hcon:=AnyQ.slices_SortFunc M1 33 Tryz.isAgg86 Tryz.sizeOf86 FX Jc VR Tu bT 269 #[] g 0 cap d w eg (XV g 0 d.size w) hH hg hn;refine Calls.mono hcon fun e w' ⟨he,d',n,os,hp,hs,hw⟩=>⟨he,d',hp.1,?_,?_,?_,?_⟩
 · have:=hp.2.2
   rwa [show d'.extract 0 d.size=d' by rw[←hp.1,Array.extract_size],Array.extract_size] at this
 · rw[List.pairwise_iff_getElem]
   intro i j hi hj hij;have hi':i<d'.size:=by simpa using hi
   have hj':j<d'.size:=by simpa using hj
   have:=hs i j (Nat.zero_le _) hij (by rw[←hp.1];exact hj');rw[ltP,getElem!_pos d' i hi',getElem!_pos d' j hj'] at this;simpa using this
 · rw[hw]
   exact holdsK_sortWorldK_c FX 33 w g 0 d d' n os hH hg hp.1
 rw[hw];exact Tc w g n d' os
end Go.Proofs.YtngbdbpofifimaaGreat.Law9
namespace Go.Proofs.YtngbdbpofifimaaGreat.Law9
open Go.RowKit Go.Proofs.YtngbdbpofifimaaGreat.ShaW Go.Proofs.YtngbdbpofifimaaGreat.Path Go.Proofs.YtngbdbpofifimaaGreat.Store
def Fy (w:World) (ao:Option Addr) (len:Nat):Prop:=∀i,i<len→∃(g off:Nat) (x:Int),ao=some ⟨g,off,none⟩∧w.cell? ⟨g,off+i,none⟩=some (.int .i64 x)∧(Lit.int .i64 x).wf=true∧g<w.heap.size
theorem swap_perm {l:List Pr} {a b:Nat} {x y:Pr} (ha:l[a]?=some x) (hb:l[b]?=some y):((l.set a y).set b x).Perm l:=by
 obtain⟨h1,rfl⟩:=List.getElem?_eq_some_iff.1 ha;obtain⟨h2,rfl⟩:=List.getElem?_eq_some_iff.1 hb;exact List.set_set_perm h1 h2
theorem Ke (l:List Pr):keysOf (l.map Pr.ent)=l.map (·.key):=by simp[keysOf,Pr.ent,Function.comp_def]
end Go.Proofs.YtngbdbpofifimaaGreat.Law9
namespace Go.Proofs.YtngbdbpofifimaaGreat.Store
open Go.RowKit Go.Proofs.YtngbdbpofifimaaGreat.Path Go.Maps
theorem Wf:laidOutB Tryz.prog=true:=by kernel_rfl
theorem UU:Keyed Tryz.prog 47:=Keyed.of_law (deep_law_laid Wf (m:=2) (by omega) (of_decide_eq_true (by kernel_rfl)) (by kernel_rfl) (by kernel_rfl))
theorem Vx:Tryz.prog.keyType 47=true:=by kernel_rfl
theorem Vi:Tryz.prog.cellsOf 47=32:=by kernel_rfl
theorem Xt:Tryz.prog.cellsOf 5=1:=by kernel_rfl
theorem R4 {α β:Type} {f:α→Option β} {g:α→β}:∀(l:List α),(∀x∈l,f x=some (g x))→l.mapM f=some (l.map g)
 | [],_=>rfl
 | x::l,h=>by
  rw[List.mapM_cons,h x (by simp),R4 l (fun y hy=>h y (by simp[hy]))];rfl
theorem MR (k:List UInt8) (hk:k.length=32):∃l,keyOf Tryz.prog 47 (.agg (AK k))=some l:=by
 have hsz:(AK k).size=32:=by simp[AK,hk]
 have hf:Value.formed Tryz.prog 47 (.agg (AK k))=true:=by
  unfold Value.formed;simp only[Tryz.underlying47,Vi,hsz];rfl
 have hl:∀n,Tryz.prog.keyLits (n+2) 47 (AK k).toList=some (((List.range 32).map fun i => [Lit.int .u8 ((k.getD i 0).toNat:Int)]).flatten):=fun n=>by
  unfold Program.keyLits;simp only[Tryz.underlying47];rw[if_pos (by rw[Vi,Array.length_toList,hsz]),R4 (g:=fun i => [Lit.int .u8 ((k.getD i 0).toNat:Int)])]
  · rfl
  intro i hi;have hi:i<32:=List.mem_range.1 hi
  have hg:((AK k).toList.drop (i*Tryz.prog.cellsOf 5)).take (Tryz.prog.cellsOf 5) = [bv (k.getD i 0)]:=by
   rw[Xt,Nat.mul_one];have h1:i<(AK k).toList.length:=by rw[Array.length_toList,hsz];exact hi
   rw[List.drop_eq_getElem_cons h1];have:=D9 (l:=k) (i:=i) (by omega);rw[Array.getElem?_eq_getElem (by rw[hsz];exact hi)] at this;injection this with this;simp[this]
  rw[hg];unfold Program.keyLits;simp only[Tryz.underlying5,bv];have:=(k.getD i 0).toNat_lt;rw[if_pos ⟨trivial,WalkArith.wf_u8 ⟨by omega,by omega⟩⟩]
 unfold keyOf;simp only[Tryz.underlying47,Vx,hf];obtain⟨m,hm⟩:∃m,Tryz.prog.types.size+1=m+2:=⟨Tryz.prog.types.size-1,by have:1≤Tryz.prog.types.size:=of_decide_eq_true (by kernel_rfl);omega⟩
 rw[hm];have e:=hl m
 show ∃l,Option.map _ (Tryz.prog.keyLits (m+2) 47 (AK k).toList)=some l
 rw[e];exact⟨_,rfl⟩
theorem Iw {H:Type} {P:Program} {e:TypeId} (he:P.underlying e=some .bool) {v:Value} {z:DataW H×List MemPlace} (h:plainElem P e v=some z):∃x,v=.bool x∧z=(.lit (.bool x),[]):=by
 unfold plainElem at h;rw[he] at h;cases v<;>simp at h;exact⟨_,rfl,h.symm⟩
noncomputable abbrev Yp:Value→Option (DataW Value×List MemPlace):=plainElem Tryz.prog 4
noncomputable def kl (k:List UInt8):Lit:=if h:k.length=32 then Classical.choose (MR k h) else .bool false
theorem Gq {k:List UInt8} (hk:k.length=32):keyOf Tryz.prog 47 (.agg (AK k))=some (kl k):=by
 unfold kl;rw[dif_pos hk];exact Classical.choose_spec (MR k hk)
theorem Un {a b:List UInt8} (h:AK a=AK b):a=b:=by
 have h2:a.map bv=b.map bv:=by have:=congrArg Array.toList h;simpa[AK] using this
 refine List.map_inj_right (fun x y e=>?_) |>.1 h2;simp only[bv,Value.int.injEq,true_and] at e;exact UInt8.toNat_inj.1 (by omega)
theorem Ub {a b:List UInt8} (ha:a.length=32) (hb:b.length=32) (h:kl a=kl b):a=b:=by
 have:=UU.inj (Gq ha) (by rw[h];exact Gq hb);injection this with this;exact Un this
theorem Rp {k:List UInt8} (hk:k.length=32):WideAt.IsKeyLit (kl k):=UU.key (Gq hk)
theorem Qx (w:World):(zeroValue 4).run Tryz.prog w=.ok (.bool false) w:=by kernel_rfl
def IG (w:World) (b n:Nat) (S:List (List UInt8)):Prop:=∃D,w.ownsMap Tryz.prog 47 Yp b n D∧∀k:List UInt8,k.length=32→D.atKey (kl k) (.lit (.bool false))=.lit (.bool (decide (k∈S)))
theorem IG.made (w:World):IG (w.alloc (.map #[] 0)) w.heap.size 0 []:=⟨_,World.ownsMap_made w _ _ _,fun k _=>by simp[DataW.atKey]⟩
theorem IG.Af {F:Nat→Prop} {w w':World} {b n:Nat} {S:List (List UInt8)} (h:IG w b n S) (hc:Ch F w w') (hb:¬F b):IG w' b n S:=by
 obtain⟨D,⟨es,clock,hg,r⟩,h2⟩:=h;exact⟨D,⟨es,clock,hc.row hg hb,r⟩,h2⟩
theorem IG.look {w:World} {b n:Nat} {S:List (List UInt8)} (h:IG w b n S) {k:List UInt8} (hk:k.length=32) :
 (Instr.lookup 355 (.map (some b)) (.agg (AK k)) false).run Tryz.prog w=.ok (.bool (decide (k∈S))) w:=by
 obtain⟨D,h1,h2⟩:=h;obtain⟨v,ps,hr,hv⟩:=h1.lookup UU Tryz.underlying355 (Qx w) (plainElem_bool Tryz.underlying4 false) (Gq hk);rw[h2 k hk] at hv;rw[hr];obtain⟨x,rfl,hx⟩:=Iw Tryz.underlying4 hv;simp only[Prod.mk.injEq,DataW.lit.injEq,Lit.bool.injEq] at hx;rw[hx.1]
theorem Sd {w:World} {b n:Nat} {S:List (List UInt8)} (h:IG w b n S) (hn:n<maxLen) {ops:Array Oper} {rest:List Oper} {o:Oper} {a:Act} {Q:Exit→Act→World→Prop}
 (hg:o.guard=none) (m x v:Operand) (hop:o.op=Op.mapUpdate 355 m x v) (hm:a.eval m=.map (some b)) (k:List UInt8) (hk:k.length=32) (hx:a.eval x=.agg (AK k)) (hv:a.eval v=.bool true)
 (hK:∀w',IG w' b (n+1) (k::S)→Ch (fun k=>k=b) w w'→wpList Tryz.prog ops Q rest (a.put o.dst undef) w'):wpList Tryz.prog ops Q (o::rest) a w:=by
 obtain⟨D,h1,h2⟩:=h;refine wpList_mapUpdate_own w hg m x v _ hop 47 4 UU Tryz.underlying355 Yp b n D hm h1 hn _ _ (kl k) hx hv (Gq hk) (.lit (.bool true)) [] (plainElem_bool Tryz.underlying4 true) ?_;intro w' h3 h4;refine hK w' ⟨_,h3,fun z hz=>?_⟩ ((Ch.refl _ w).grown h4 (fun k hk=>.inl (by cases hk;rfl)));by_cases e:z=k
 · subst e
   rw[Maps.atKey_put_same h1.isMap (Rp hk)];simp
 rw[Maps.atKey_put_other (fun he=>e (Ub hz hk he)),h2 z hz];simp[e]
end Go.Proofs.YtngbdbpofifimaaGreat.Store
