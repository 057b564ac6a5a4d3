/- Laws of the layers below. -/
import Derived.Test.YtngbdbpofifimaaGreatQl32
import Derived.Lib.SlBytesConst
import Derived.Sort.Walk0
import Derived.ChangeMaps5
set_option maxHeartbeats 3200000
set_option maxRecDepth 100000
set_option linter.unusedVariables false
namespace Go.Proofs.YtngbdbpofifimaaGreat.Law14
open Go.RowKit Go.Proofs.YtngbdbpofifimaaGreat.ShaW Go.Proofs.YtngbdbpofifimaaGreat.Path Go.Proofs.YtngbdbpofifimaaGreat.Store Go.Proofs.YtngbdbpofifimaaGreat.Law9
theorem TH {x:Int} (h0:0≤x) (h1:x≤65536):(Lit.int .i64 x).wf=true:=WalkArith.wf_i64 (by omega)
structure cX (w0 w:World) (s v:Nat) (r:Int) (σ:AD Nd) (ν:Nms) (R:List (Int×AS)) (tt:Nat):Prop where
 vs:Vs w0 w v s σ ν (fun _=>False)
 roots:BE σ R
 ne:r≠0
 room:σ.room=600
 live:Store.live σ≤300
 total:Store.total σ≤tt
 span:σ.slots.length≤300
section
variable {w0 w w' : World} {s v tt : Nat} {r : Int} {σ σ' : AD Nd} {ν : Nms} {R : List (Int×AS)}
theorem Mj (h:BE σ R) {p:Int×AS} (hp:p∈R):BS σ p.1=0:=CI (h.db hp).hand
theorem Vu (h:BE σ R) {p:Int×AS} (hp:p∈R) (hr:σ.slots.length≤65536):(Lit.int .i64 p.1).wf=true:=by
 rcases h.there hp with h0|h1
 · rw[h0];decide
 obtain⟨x,hx,_⟩:=BF h1;obtain⟨m,hm,_,_,hlt⟩:=AD.Ad hx;exact TH (by omega) (by omega)
end
end Go.Proofs.YtngbdbpofifimaaGreat.Law14
namespace Go.Proofs.YtngbdbpofifimaaGreat.Store
open Go.RowKit Go.Sort Go.Proofs.YtngbdbpofifimaaGreat.ShaW Go.Proofs.YtngbdbpofifimaaGreat.Path
abbrev cZ (l:List Int):List Value:=l.map (Value.int .i64)

end Go.Proofs.YtngbdbpofifimaaGreat.Store
namespace Go.Proofs.YtngbdbpofifimaaGreat.Law14
open Go.RowKit Go.Proofs.YtngbdbpofifimaaGreat.ShaW Go.Proofs.YtngbdbpofifimaaGreat.Path Go.Proofs.YtngbdbpofifimaaGreat.Store Go.Proofs.YtngbdbpofifimaaGreat.Law9
def Uo:List UInt8 := [110,111,110,101]
def nmX (k:Nat):List UInt8 := [120,UInt8.ofNat (97+k)]
def cY (k:Nat):Nms:=(List.range k).foldl (fun ν i=>ν.set (nmX i) 0) [(Uo,0)]

end Go.Proofs.YtngbdbpofifimaaGreat.Law14
namespace Go.Proofs.YtngbdbpofifimaaGreat.Store
open Go.RowKit Go.Proofs.YtngbdbpofifimaaGreat.ShaW Go.Proofs.YtngbdbpofifimaaGreat.Path
open Go.Maps (Keyed)
abbrev Hms:=List (List UInt8×List UInt8)
def Hms.names (κ:Hms):List (List UInt8):=κ.map Prod.fst
def Hms.get (κ:Hms) (x:List UInt8):List UInt8:=((κ.find? (fun p=>decide (p.1=x))).map Prod.snd).getD (List.replicate 32 0)
def Wr (v:Value):Option (DataW Value×List MemPlace):=some (.held v,[])
def Qk (d:List UInt8):Value:=.agg (AK d)
structure ZD (w:World) (b n:Nat) (κ:Hms):Prop where
 ex:∃D,w.ownsMap Tryz.prog 9 Wr b n D∧Maps.size D=κ.length∧∀x:List UInt8,Maps.has D (.string x)=decide (x∈κ.names)∧D.atKey (.string x) (.held (Qk (List.replicate 32 0)))=.held (Qk (κ.get x))
 nd:κ.names.Nodup

end Go.Proofs.YtngbdbpofifimaaGreat.Store
namespace Go.Proofs.YtngbdbpofifimaaGreat
open Go.RowKit Go.Proofs.YtngbdbpofifimaaGreat.ShaW Go.Proofs.YtngbdbpofifimaaGreat.Path Go.Proofs.YtngbdbpofifimaaGreat.Store Go.Proofs.YtngbdbpofifimaaGreat.Law9 Go.Deep Go.ChangeShapes Go.WideShapes Go.ChangeAt
def U1 (W:World) (v:Value):Prop:=∃k:List UInt8,k.length=32∧v=.agg (AK k)
section
variable {H : Type} {enc : TypeId×Value→H} {W : World} {base : Nat} {v : Value} {d : DataW H} {p : List MemPlace}
theorem Xi (hv:Value.okWide Tryz.prog W .any base 47 v)
 (h:DataW.Trod enc Tryz.prog W 0 (fun _=>true) true 47 v d p):U1 W v:=by
 simp only[Value.okWide,Tryz.underlying47] at hv;obtain⟨cs,rfl,_,_⟩:=hv;obtain⟨m,hm⟩:=h;obtain⟨k,e,hk⟩:=U4 hm;refine⟨k,hk,?_⟩
 congr 1
 apply Array.ext';rw[show cs.toList=_ from e];rfl
end
end Go.Proofs.YtngbdbpofifimaaGreat
namespace Go.Proofs.YtngbdbpofifimaaGreat.Law14
open Go.RowKit Go.Proofs.YtngbdbpofifimaaGreat.ShaW Go.Proofs.YtngbdbpofifimaaGreat.Path Go.Proofs.YtngbdbpofifimaaGreat.Store Go.Proofs.YtngbdbpofifimaaGreat.Law9
abbrev Nmd:=List (List UInt8×Int×AS)
def En (M:Nmd):Nms:=M.map fun p=>(p.1,p.2.1)
def JY (M:Nmd):List (Int×AS):=M.map fun p=>(p.2.1,p.2.2)
def EL (M:Nmd):List (List UInt8):=M.map Prod.fst
theorem CR (M:Nmd):(En M).names=EL M:=by simp[En,Nms.names,EL]
theorem GW (M:Nmd):(En M).length=M.length:=by simp[En]
theorem Jf {M:Nmd} {x:List UInt8} (h:x∈EL M):∃p∈M,p.1=x:=by simpa[EL] using h
structure Sty (w0 w:World) (s v bm xb:Nat) (σ:AD Nd) (R:List (Int×AS)) (M:Nmd) (κ:Hms) (ln tn:Nat):Prop where
 vs:Vs w0 w v s σ (En M) (fun j=>j=bm∨j=xb)
 rts:BE σ R
 room:σ.room=5160
 live:Store.live σ≤ln
 total:Store.total σ≤tn
 hm:ZD w bm κ.length κ
 bb:w0.heap.size≤bm
section
variable {w0 w w' : World} {s v bm xb ln tn : Nat} {σ : AD Nd} {root : Int} {L : AS} {R : List (Int×AS)} {M : Nmd} {κ : Hms}
def JZ (M:Nmd) (x:List UInt8):Nmd:=M.filter fun p => !decide (p.1=x)
theorem Vc (M:Nmd) (x:List UInt8):(En M).cut x=En (JZ M x):=by
 unfold En Nms.cut JZ;rw[List.filter_map];rfl
theorem Oz:∀ {M:Nmd} {p:List UInt8×Int×AS},(EL M).Nodup→p∈M→(JY M).Perm ((p.2.1,p.2.2)::JY (JZ M p.1))
 | [],p,_,h=>by cases h
 | q::M,p,hn,h=>by
  obtain⟨n1,n2⟩:=List.nodup_cons.1 (show(q.1::EL M).Nodup from hn);rcases List.mem_cons.1 h with rfl|hp
  · have:JZ (p::M) p.1=M:=by
     unfold JZ;rw[List.filter_cons,if_neg (by simp)];refine List.filter_eq_self.2 fun r hr=>?_
     have:r.1≠p.1:=fun e=>n1 (by rw[←e];exact List.mem_map_of_mem hr)
     simp[this]
    rw[this];exact .refl _
  have hne:q.1≠p.1:=fun e=>n1 (by rw[e];exact List.mem_map_of_mem hp)
  have:JZ (q::M) p.1=q::JZ M p.1:=by unfold JZ;rw[List.filter_cons,if_pos (by simp[hne])]
  rw[this];exact((Oz n2 hp).cons (q.2.1,q.2.2)).trans (List.Perm.swap ..)
theorem Ga {M:Nmd} (hn:(EL M).Nodup) {p:List UInt8×Int×AS} (hp:p∈M):(En M).get p.1=p.2.1:=by
 have:(p.1,p.2.1)∈En M:=List.mem_map_of_mem (f:=fun p:List UInt8×Int×AS=>(p.1,p.2.1)) hp;exact Nms.get_mem (by rw[CR];exact hn) this
end
def cS (w:World) (xb:Nat) (ao:Option Addr) (l:List (List UInt8)):Prop:=∀(k:Nat) x,l[k]?=some x→ao=some ⟨xb,0,none⟩∧w.cell? ⟨xb,k,none⟩=some (.string (BP x))
theorem Ft {M:Nmd} {x:List UInt8} (h:x∈GX (En M)):∃p∈M,p.1=x:=Jf (by rw[←CR];exact Tq.1 h)
def cK (M:Nmd) (l:List (List UInt8)):Nmd:=M.filter fun p => !decide (p.1∈l)
end Go.Proofs.YtngbdbpofifimaaGreat.Law14
namespace Go.Proofs.YtngbdbpofifimaaGreat
open Go.RowKit
section
variable {P : Program} {Q : Exit→Act→World→Prop} {md : Region.Mode} {S : World→Prop}
def DW (P:Program) (l:List Oper) (Q:Exit→Act→World→Prop) (f:Nat) (S:World→Prop) (n:Nat):List (Nat×Bool)→Act→World→Prop
 | [],a,w=>wpOp P l.toArray Q f (fun a' w'=>S w'∧Bo P l Q S n [] a' w') a w
 | (i,false)::r,a,w=>∃o v,l[i]?=some o∧YieldsIf P l.toArray S o v a∧DW P l Q f S n r (a.put o.dst v) w
 | (i,true)::r,a,w=>wpOp P l.toArray Q i (fun a' w'=>S w'∧DW P l Q f S n r a' w') a w∧wpOp P l.toArray Q f (fun a' w'=>S w'∧Bo P l Q S n ((i,true)::r) a' w') a w
def JH (md:Region.Mode) (ops:Array Oper) (f n:Nat):List (Nat×Bool)→Array Bool→Bool
 | [],listed=>decide (f<n)&&decide (Region.ready md ops listed = [f])&&Kw md ops n [] (listed.setIfInBounds f true)
 | (i,false)::r,listed=>decide (i<n)&&(Region.ready md ops listed).contains i&&Region.free md ops listed i&&JH md ops f n r (listed.setIfInBounds i true)
 | (i,true)::r,listed=>decide (i<n)&&decide (f<n)&&(decide (Region.ready md ops listed = [i,f])||decide (Region.ready md ops listed = [f,i]))&&JH md ops f n r (listed.setIfInBounds i true)&&Kw md ops n ((i,true)::r) (listed.setIfInBounds f true)
def PL (md:Region.Mode) (ops:Array Oper) (f n:Nat) (p:List (Nat×Bool)):Bool :=
 Region.noSelect ops&&decide (p.length+1=n)&&decide (n≤ops.size)&&It md ops n&&JH md ops f n p (Array.replicate ops.size false)
theorem Ek {l:List Oper} {f n:Nat} (hsel:Region.noSelect l.toArray=true) (ht:It md l.toArray n=true) (hQ:∀c a a' w,Q (.panic c) a' w→Q (.panic c) a w) :
 ∀(p:List (Nat×Bool)) (listed:Array Bool) (a:Act) (w:World),JH md l.toArray f n p listed=true→HeadInv md l.toArray n listed→S w→DW P l Q f S n p a w →
 wpHead P md l.toArray Q S n (fun listed a w=>Region.seqB md l.toArray (l.toArray.size-n) n listed=true∧wpList P l.toArray Q (l.drop n) a w) (p.length+1) listed a w
 | [],listed,a,w,hB,inv,hS,h=>by
  simp only[JH,Bool.and_eq_true,decide_eq_true_eq] at hB;obtain⟨⟨hfn,hr⟩,hB'⟩:=hB;refine⟨by rw[hr];simp,fun j hj=>?_⟩;have hjf:j=f:=by rw[hr] at hj;simpa using hj
  subst hjf;exact⟨hfn,wpOp_mono (fun a' w' h'=>⟨h'.1,DG hsel ht hQ [] _ a' w' hB' (inv.set hj hfn) h'.1 h'.2⟩) h⟩
 | (i,false)::r,listed,a,w,hB,inv,hS,h=>by
  simp only[JH,Bool.and_eq_true,decide_eq_true_eq] at hB;obtain⟨⟨⟨hin,hr⟩,hf⟩,hB'⟩:=hB;obtain⟨o,v,ho,hy,h'⟩:=h;have hr':i∈Region.ready md l.toArray listed:=by simpa using hr
  have ho':l.toArray[i]?=some o:=by simpa using ho
  exact Jy ho' (Region.noSelect_spec hsel) (fun c a w=>hQ c _ _ w) ht hin (fun listed a w hL=>seqB_ready hL.1) (r.length+1) listed a w inv (Region.free_spec ho' hf) hr' hy hS
   (Ek hsel ht hQ r _ _ w hB' (inv.set hr' hin) hS h')
 | (i,true)::r,listed,a,w,hB,inv,hS,h=>by
  simp only[JH,Bool.and_eq_true,decide_eq_true_eq,Bool.or_eq_true] at hB;obtain⟨⟨⟨⟨hin,hfn⟩,hr⟩,hB1⟩,hB2⟩:=hB
  have hmem:∀j,j∈Region.ready md l.toArray listed↔j=i∨j=f:=fun j=>by
   rcases hr with hr|hr
   · rw[hr];simp
   rw[hr];simp[or_comm]
  refine⟨fun h0=>?_,fun j hj=>?_⟩
  · have:=(hmem i).2 (.inl rfl)
    rw[h0] at this;cases this
  rcases (hmem j).1 hj with e|e
  · subst e
    exact⟨hin,wpOp_mono (fun a' w' h'=>⟨h'.1,Ek hsel ht hQ r _ a' w' hB1 (inv.set hj hin) h'.1 h'.2⟩) h.1⟩
  subst e;exact⟨hfn,wpOp_mono (fun a' w' h'=>⟨h'.1,DG hsel ht hQ ((i,true)::r) _ a' w' hB2 (inv.set hj hfn) h'.1 h'.2⟩) h.2⟩
theorem Dp {id:Nat} {a:Act} {w:World} {l:List Oper} (f:Nat) (S:World→Prop) (n:Nat) (p:List (Nat×Bool)) (hm:P.follows .mixedOrders=true)
 (hB:PL .any l.toArray f n p=true) (hS:S w.drew) (h:DW P l (NoPanic Q) f S n p a w.drew):(Code.region id l.toArray true).wp P Q a w:=by
 refine wp_region_noPanic ?_;have hQ:∀c a a' w,NoPanic Q (.panic c) a' w→NoPanic Q (.panic c) a w:=fun _ _ _ _ h=>h.elim
 simp only[PL,Bool.and_eq_true,decide_eq_true_eq] at hB;obtain⟨⟨⟨⟨hsel,hlen⟩,hn⟩,ht⟩,hp⟩:=hB
 have inv0:HeadInv .any l.toArray n (Array.replicate l.toArray.size false) :=
  ⟨by simp,fun j oj _ hl=>(by rw[getD_replicate_false] at hl;cases hl),fun t _ ht=>getD_in (by simpa using ht) (getD_replicate_false _ _)⟩
 have H:=Ek (md:=.any) hsel ht hQ p _ a _ hp inv0 hS h;refine wp_region_any hm ?_
 have:=Em (g:=l.toArray.size-n) (fun listed a' w' hL=>by
  have hdl:(l.drop n).length=l.toArray.size-n:=by simp
  have:=wpAny_of_seq (md:=.any) (Q':=NoPanic Q) (l.drop n) n listed a' w' (fun j=>by simp[List.getElem?_drop]) (by rw[hdl];exact hL.1) hL.2
  rwa [hdl] at this) _ _ _ _ H
 rw[hlen,show n+(l.toArray.size-n)=l.toArray.size by omega] at this;exact this
theorem planF_look {l:List Oper} {f n i:Nat} {r:List (Nat×Bool)} {a:Act} {w:World} {o:Oper} {v:Value} (ho:l[i]?=some o) (hw:Region.wanted o (yielded l.toArray a.tmps)=true)
 (hy:∀w0,S w0→(execOp a.eval o).run P w0=.ok (.value v) w0) (h:DW P l Q f S n r (a.put o.dst v) w):DW P l Q f S n ((i,false)::r) a w :=
 ⟨o,v,ho,.inl ⟨hw,hy⟩,h⟩
theorem RZ {l:List Oper} {f n i:Nat} {r:List (Nat×Bool)} {a:Act} {w:World} {o:Oper} (ho:l[i]?=some o) (hw:Region.wanted o (yielded l.toArray a.tmps)=false)
 (h:DW P l Q f S n r (a.put o.dst undef) w):DW P l Q f S n ((i,false)::r) a w :=
 ⟨o,undef,ho,.inr ⟨hw,rfl⟩,h⟩
theorem Gn {l:List Oper} {i:Nat} {a:Act} {w:World} {o:Oper} {K:Act→World→Prop} (ho:l[i]?=some o) (h:wpList P l.toArray (Exit.then K Q) [o] a w):wpOp P l.toArray Q i K a w:=by
 have ho':l.toArray[i]?=some o:=by simpa using ho
 unfold wpOp;simp only[ho'];unfold wpList at h;split
 · rename_i hw
   rw[if_pos hw] at h;refine h.imp (fun h=>?_) id;unfold Oper.wp at h ⊢;generalize (execOp a.eval o).run P w=r at h ⊢;cases r with
   | ok nx w' =>
    cases nx<;>simp only[Oper.upon,wpList,Exit.then] at h ⊢ <;>
     first
      | exact h
      | exact Calls.mono h (fun e w'' he=>by cases e<;>exact he)
   | halt x w'=>cases x<;>simp only[Oper.upon,Exit.then] at h ⊢ <;> exact h
 rename_i hw;rw[if_neg hw] at h;exact h
theorem GO {l:List Oper} {f n i:Nat} {r:List (Nat×Bool)} {a:Act} {w:World} {o of:Oper} (ho:l[i]?=some o) (hof:l[f]?=some of)
 (h:wpList P l.toArray (Exit.then (fun a' w'=>S w'∧DW P l Q f S n r a' w') Q) [o] a w) (h2:wpList P l.toArray (Exit.then (fun a' w'=>S w'∧Bo P l Q S n ((i,true)::r) a' w') Q) [of] a w):DW P l Q f S n ((i,true)::r) a w :=
 ⟨Gn ho h,Gn hof h2⟩
theorem Gc {l:List Oper} {f n:Nat} {a:Act} {w:World} {of:Oper} (hof:l[f]?=some of)
 (h2:wpList P l.toArray (Exit.then (fun a' w'=>S w'∧Bo P l Q S n [] a' w') Q) [of] a w):DW P l Q f S n [] a w:=Gn hof h2
end
end Go.Proofs.YtngbdbpofifimaaGreat
