/- Laws of the layers below. -/
import Derived.Test.YtngbdbpofifimaaGreatQk28
import Derived.Lib.SlBytesConst
import Derived.ChangeMaps5
import Derived.Sort.Walk0
set_option maxHeartbeats 3200000
set_option maxRecDepth 100000
set_option linter.unusedVariables false
namespace Go.Proofs.YtngbdbpofifimaaGreat.Law14
open Go.RowKit Go.Proofs.YtngbdbpofifimaaGreat.ShaW Go.Proofs.YtngbdbpofifimaaGreat.Path Go.Proofs.YtngbdbpofifimaaGreat.Store Go.Proofs.YtngbdbpofifimaaGreat.Law9
def YI:AM:=upd [] (XS 0) [118]
theorem Qn {x:Int} (h0:0≤x) (h1:x≤65536):(Lit.int .i64 x).wf=true:=WalkArith.wf_i64 (by omega)
structure YL (w0 w:World) (s v:Nat) (r:Int) (σ:AA Nd) (ν:Nms) (R:List (Int×AM)) (tt:Nat):Prop where
 vs:Vs w0 w v s σ ν (fun _=>False)
 roots:Roots σ R
 ne:r≠0
 room:σ.room=600
 live:Store.live σ≤300
 total:Store.total σ≤tt
 span:σ.slots.length≤300
section
variable {w0 w w' : World} {s v tt : Nat} {r : Int} {σ σ' : AA Nd} {ν : Nms} {R : List (Int×AM)}
theorem Lg (h:Roots σ R) {p:Int×AM} (hp:p∈R):Ap σ p.1=0:=CV (h.db hp).hand
theorem UG (h:Roots σ R) {p:Int×AM} (hp:p∈R) (hr:σ.slots.length≤65536):(Lit.int .i64 p.1).wf=true:=by
 rcases h.there hp with h0|h1
 · rw[h0];decide
 obtain⟨x,hx,_⟩:=Aw h1;obtain⟨m,hm,_,_,hlt⟩:=AA.AU hx;exact Qn (by omega) (by omega)
end
end Go.Proofs.YtngbdbpofifimaaGreat.Law14
namespace Go.Proofs.YtngbdbpofifimaaGreat.Store
open Go.RowKit Go.Sort Go.Proofs.YtngbdbpofifimaaGreat.ShaW Go.Proofs.YtngbdbpofifimaaGreat.Path
abbrev YQ (l:List Int):List Value:=l.map (Value.int .i64)

end Go.Proofs.YtngbdbpofifimaaGreat.Store
namespace Go.Proofs.YtngbdbpofifimaaGreat.Law14
open Go.RowKit Go.Proofs.YtngbdbpofifimaaGreat.ShaW Go.Proofs.YtngbdbpofifimaaGreat.Path Go.Proofs.YtngbdbpofifimaaGreat.Store Go.Proofs.YtngbdbpofifimaaGreat.Law9
def nmA:List UInt8 := [97]
def WN:List UInt8 := [110,111,110,101]
def Xx:List UInt8 := [111,110,101,45,109,111,114,101]
def nmX (k:Nat):List UInt8 := [120,UInt8.ofNat (97+k)]
def YN (k:Nat):Nms:=(List.range k).foldl (fun ν i=>ν.set (nmX i) 0) [(WN,0)]

end Go.Proofs.YtngbdbpofifimaaGreat.Law14
namespace Go.Proofs.YtngbdbpofifimaaGreat.Store
open Go.RowKit Go.Proofs.YtngbdbpofifimaaGreat.ShaW Go.Proofs.YtngbdbpofifimaaGreat.Path
open Go.Maps (Keyed)
abbrev Hms:=List (List UInt8×List UInt8)
def Hms.names (κ:Hms):List (List UInt8):=κ.map Prod.fst
def Hms.get (κ:Hms) (x:List UInt8):List UInt8:=((κ.find? (fun p=>decide (p.1=x))).map Prod.snd).getD (List.replicate 32 0)
def Ww (v:Value):Option (DataW Value×List MemPlace):=some (.held v,[])
def Vn (d:List UInt8):Value:=.agg (AK d)
structure Wh (w:World) (b n:Nat) (κ:Hms):Prop where
 ex:∃D,w.ownsMap Tryz.prog 9 Ww b n D∧Maps.size D=κ.length∧∀x:List UInt8,Maps.has D (.string x)=decide (x∈κ.names)∧D.atKey (.string x) (.held (Vn (List.replicate 32 0)))=.held (Vn (κ.get x))
 nd:κ.names.Nodup

end Go.Proofs.YtngbdbpofifimaaGreat.Store
namespace Go.Proofs.YtngbdbpofifimaaGreat
open Go.RowKit Go.Proofs.YtngbdbpofifimaaGreat.ShaW Go.Proofs.YtngbdbpofifimaaGreat.Path Go.Proofs.YtngbdbpofifimaaGreat.Store Go.Proofs.YtngbdbpofifimaaGreat.Law9 Go.Deep Go.ChangeShapes Go.WideShapes Go.ChangeAt
def Xz (W:World) (v:Value):Prop:=∃k:List UInt8,k.length=32∧v=.agg (AK k)
def Xf (W:World) (v:Value):Prop:=∃bs:List UInt8,Bytes W v bs∧(bs ≠ []→∀k,v.ownBlock=some k→k<W.heap.size)
def Xg (W:World) (v:Value):Prop:=∃ao l cap,v=.slice ao (List.length l) cap∧GA W ao l∧l.length≤cap

def YA (W:World) (v:Value):Prop:=∃s:ByteArray,s.size≤maxLen∧v=.string s
end Go.Proofs.YtngbdbpofifimaaGreat
namespace Go.Proofs.YtngbdbpofifimaaGreat.Law14
open Go.RowKit Go.Proofs.YtngbdbpofifimaaGreat.ShaW Go.Proofs.YtngbdbpofifimaaGreat.Path Go.Proofs.YtngbdbpofifimaaGreat.Store Go.Proofs.YtngbdbpofifimaaGreat.Law9 Go.Deep Go.ChangeShapes Go.WideShapes Go.ChangeAt
structure Wr where
 key:List UInt8
 vv:Value
 val:List UInt8
 nm:List UInt8
def Wr.cells (x:Wr):Array Value:=(x.key.map bv ++ [x.vv,.string (BH x.nm)]).toArray
structure Wr.Good (w:World) (x:Wr):Prop where
 key:x.key.length=32
 val:Bytes w x.vv x.val
 blk:x.val ≠ []→∀k,x.vv.ownBlock=some k→k<w.heap.size
 nm:x.nm.length≤maxLen
section
variable {x : Wr} (h : x.key.length=32)
include h
end
def Ss (w:World) (ao:Option Addr) (l:List Wr):Prop:=(∀x∈l,x.Good w)∧∀i x,l[i]?=some x→∃(g off:Nat),ao=some ⟨g,off,none⟩∧Bx w g (off+i*34) x.cells
def Xd (W:World) (v:Value):Prop:=∃ao l cap,v=.slice ao (List.length l) cap∧Ss W ao l

end Go.Proofs.YtngbdbpofifimaaGreat.Law14
namespace Go.Proofs.YtngbdbpofifimaaGreat.Law14
open Go.RowKit Go.Proofs.YtngbdbpofifimaaGreat.ShaW Go.Proofs.YtngbdbpofifimaaGreat.Path Go.Proofs.YtngbdbpofifimaaGreat.Store Go.Proofs.YtngbdbpofifimaaGreat.Law9
abbrev Nmd:=List (List UInt8×Int×AM)
def ED (M:Nmd):Nms:=M.map fun p=>(p.1,p.2.1)
def YK (M:Nmd):Hms:=M.map fun p=>(p.1,(tree 256 p.2.2).dig)
def Fm (M:Nmd):List (Int×AM):=M.map fun p=>(p.2.1,p.2.2)
def C0 (M:Nmd):List (List UInt8):=M.map Prod.fst
theorem Bp (M:Nmd):(ED M).names=C0 M:=by simp[ED,Nms.names,C0]
theorem FY (M:Nmd):(ED M).length=M.length:=by simp[ED]
theorem GV {M:Nmd} {x:List UInt8} (h:x∈C0 M):∃p∈M,p.1=x:=by simpa[C0] using h
structure Sty (w0 w:World) (s v bm xb:Nat) (σ:AA Nd) (R:List (Int×AM)) (M:Nmd) (κ:Hms) (ln tn:Nat):Prop where
 vs:Vs w0 w v s σ (ED M) (fun j=>j=bm∨j=xb)
 rts:Roots σ R
 room:σ.room=5160
 live:Store.live σ≤ln
 total:Store.total σ≤tn
 hm:Wh w bm κ.length κ
 bb:w0.heap.size≤bm
section
variable {w0 w w' : World} {s v bm xb ln tn : Nat} {σ : AA Nd} {root : Int} {L : AM} {R : List (Int×AM)} {M : Nmd} {κ : Hms}
def I3 (M:Nmd) (x:List UInt8):Nmd:=M.filter fun p => !decide (p.1=x)
theorem T2 (M:Nmd) (x:List UInt8):(ED M).cut x=ED (I3 M x):=by
 unfold ED Nms.cut I3;rw[List.filter_map];rfl
theorem Nn:∀ {M:Nmd} {p:List UInt8×Int×AM},(C0 M).Nodup→p∈M→(Fm M).Perm ((p.2.1,p.2.2)::Fm (I3 M p.1))
 | [],p,_,h=>by cases h
 | q::M,p,hn,h=>by
  obtain⟨n1,n2⟩:=List.nodup_cons.1 (show(q.1::C0 M).Nodup from hn);rcases List.mem_cons.1 h with rfl|hp
  · have:I3 (p::M) p.1=M:=by
     unfold I3;rw[List.filter_cons,if_neg (by simp)];refine List.filter_eq_self.2 fun r hr=>?_
     have:r.1≠p.1:=fun e=>n1 (by rw[←e];exact List.mem_map_of_mem hr)
     simp[this]
    rw[this];exact .refl _
  have hne:q.1≠p.1:=fun e=>n1 (by rw[e];exact List.mem_map_of_mem hp)
  have:I3 (q::M) p.1=q::I3 M p.1:=by unfold I3;rw[List.filter_cons,if_pos (by simp[hne])]
  rw[this];exact((Nn n2 hp).cons (q.2.1,q.2.2)).trans (List.Perm.swap ..)
theorem Eg {M:Nmd} (hn:(C0 M).Nodup) {p:List UInt8×Int×AM} (hp:p∈M):(ED M).get p.1=p.2.1:=by
 have:(p.1,p.2.1)∈ED M:=List.mem_map_of_mem (f:=fun p:List UInt8×Int×AM=>(p.1,p.2.1)) hp;exact Nms.get_mem (by rw[Bp];exact hn) this
end
def YC (w:World) (xb:Nat) (ao:Option Addr) (l:List (List UInt8)):Prop:=∀(k:Nat) x,l[k]?=some x→ao=some ⟨xb,0,none⟩∧w.cell? ⟨xb,k,none⟩=some (.string (BH x))
theorem Ez {M:Nmd} {x:List UInt8} (h:x∈Ep (ED M)):∃p∈M,p.1=x:=GV (by rw[←Bp];exact Rz.1 h)
def YG (M:Nmd) (l:List (List UInt8)):Nmd:=M.filter fun p => !decide (p.1∈l)
end Go.Proofs.YtngbdbpofifimaaGreat.Law14
namespace Go.Proofs.YtngbdbpofifimaaGreat
open Go.RowKit
section
variable {P : Program} {Q : Exit→Act→World→Prop} {md : Region.Mode} {S : World→Prop}
def Cr (P:Program) (l:List Oper) (Q:Exit→Act→World→Prop) (f:Nat) (S:World→Prop) (n:Nat):List (Nat×Bool)→Act→World→Prop
 | [],a,w=>wpOp P l.toArray Q f (fun a' w'=>S w'∧Bb P l Q S n [] a' w') a w
 | (i,false)::r,a,w=>∃o v,l[i]?=some o∧YieldsIf P l.toArray S o v a∧Cr P l Q f S n r (a.put o.dst v) w
 | (i,true)::r,a,w=>wpOp P l.toArray Q i (fun a' w'=>S w'∧Cr P l Q f S n r a' w') a w∧wpOp P l.toArray Q f (fun a' w'=>S w'∧Bb P l Q S n ((i,true)::r) a' w') a w
def Ho (md:Region.Mode) (ops:Array Oper) (f n:Nat):List (Nat×Bool)→Array Bool→Bool
 | [],listed=>decide (f<n)&&decide (Region.ready md ops listed = [f])&&Jh md ops n [] (listed.setIfInBounds f true)
 | (i,false)::r,listed=>decide (i<n)&&(Region.ready md ops listed).contains i&&Region.free md ops listed i&&Ho md ops f n r (listed.setIfInBounds i true)
 | (i,true)::r,listed=>decide (i<n)&&decide (f<n)&&(decide (Region.ready md ops listed = [i,f])||decide (Region.ready md ops listed = [f,i]))&&Ho md ops f n r (listed.setIfInBounds i true)&&Jh md ops n ((i,true)::r) (listed.setIfInBounds f true)
def Nj (md:Region.Mode) (ops:Array Oper) (f n:Nat) (p:List (Nat×Bool)):Bool :=
 Region.noSelect ops&&decide (p.length+1=n)&&decide (n≤ops.size)&&Js md ops n&&Ho md ops f n p (Array.replicate ops.size false)
theorem EM {l:List Oper} {f n:Nat} (hsel:Region.noSelect l.toArray=true) (ht:Js md l.toArray n=true) (hQ:∀c a a' w,Q (.panic c) a' w→Q (.panic c) a w) :
 ∀(p:List (Nat×Bool)) (listed:Array Bool) (a:Act) (w:World),Ho md l.toArray f n p listed=true→HeadInv md l.toArray n listed→S w→Cr P l Q f S n p a w →
 wpHead P md l.toArray Q S n (fun listed a w=>Region.seqB md l.toArray (l.toArray.size-n) n listed=true∧wpList P l.toArray Q (l.drop n) a w) (p.length+1) listed a w
 | [],listed,a,w,hB,inv,hS,h=>by
  simp only[Ho,Bool.and_eq_true,decide_eq_true_eq] at hB;obtain⟨⟨hfn,hr⟩,hB'⟩:=hB;refine⟨by rw[hr];simp,fun j hj=>?_⟩;have hjf:j=f:=by rw[hr] at hj;simpa using hj
  subst hjf;exact⟨hfn,wpOp_mono (fun a' w' h'=>⟨h'.1,Cg hsel ht hQ [] _ a' w' hB' (inv.set hj hfn) h'.1 h'.2⟩) h⟩
 | (i,false)::r,listed,a,w,hB,inv,hS,h=>by
  simp only[Ho,Bool.and_eq_true,decide_eq_true_eq] at hB;obtain⟨⟨⟨hin,hr⟩,hf⟩,hB'⟩:=hB;obtain⟨o,v,ho,hy,h'⟩:=h;have hr':i∈Region.ready md l.toArray listed:=by simpa using hr
  have ho':l.toArray[i]?=some o:=by simpa using ho
  exact IG ho' (Region.noSelect_spec hsel) (fun c a w=>hQ c _ _ w) ht hin (fun listed a w hL=>seqB_ready hL.1) (r.length+1) listed a w inv (Region.free_spec ho' hf) hr' hy hS
   (EM hsel ht hQ r _ _ w hB' (inv.set hr' hin) hS h')
 | (i,true)::r,listed,a,w,hB,inv,hS,h=>by
  simp only[Ho,Bool.and_eq_true,decide_eq_true_eq,Bool.or_eq_true] at hB;obtain⟨⟨⟨⟨hin,hfn⟩,hr⟩,hB1⟩,hB2⟩:=hB
  have hmem:∀j,j∈Region.ready md l.toArray listed↔j=i∨j=f:=fun j=>by
   rcases hr with hr|hr
   · rw[hr];simp
   rw[hr];simp[or_comm]
  refine⟨fun h0=>?_,fun j hj=>?_⟩
  · have:=(hmem i).2 (.inl rfl)
    rw[h0] at this;cases this
  rcases (hmem j).1 hj with e|e
  · subst e
    exact⟨hin,wpOp_mono (fun a' w' h'=>⟨h'.1,EM hsel ht hQ r _ a' w' hB1 (inv.set hj hin) h'.1 h'.2⟩) h.1⟩
  subst e;exact⟨hfn,wpOp_mono (fun a' w' h'=>⟨h'.1,Cg hsel ht hQ ((i,true)::r) _ a' w' hB2 (inv.set hj hfn) h'.1 h'.2⟩) h.2⟩
theorem DK {id:Nat} {a:Act} {w:World} {l:List Oper} (f:Nat) (S:World→Prop) (n:Nat) (p:List (Nat×Bool)) (hm:P.follows .mixedOrders=true)
 (hB:Nj .any l.toArray f n p=true) (hS:S w.drew) (h:Cr P l (NoPanic Q) f S n p a w.drew):(Code.region id l.toArray true).wp P Q a w:=by
 refine wp_region_noPanic ?_;have hQ:∀c a a' w,NoPanic Q (.panic c) a' w→NoPanic Q (.panic c) a w:=fun _ _ _ _ h=>h.elim
 simp only[Nj,Bool.and_eq_true,decide_eq_true_eq] at hB;obtain⟨⟨⟨⟨hsel,hlen⟩,hn⟩,ht⟩,hp⟩:=hB
 have inv0:HeadInv .any l.toArray n (Array.replicate l.toArray.size false) :=
  ⟨by simp,fun j oj _ hl=>(by rw[getD_replicate_false] at hl;cases hl),fun t _ ht=>getD_in (by simpa using ht) (getD_replicate_false _ _)⟩
 have H:=EM (md:=.any) hsel ht hQ p _ a _ hp inv0 hS h;refine wp_region_any hm ?_
 have:=EO (g:=l.toArray.size-n) (fun listed a' w' hL=>by
  have hdl:(l.drop n).length=l.toArray.size-n:=by simp
  have:=wpAny_of_seq (md:=.any) (Q':=NoPanic Q) (l.drop n) n listed a' w' (fun j=>by simp[List.getElem?_drop]) (by rw[hdl];exact hL.1) hL.2
  rwa [hdl] at this) _ _ _ _ H
 rw[hlen,show n+(l.toArray.size-n)=l.toArray.size by omega] at this;exact this
theorem planF_look {l:List Oper} {f n i:Nat} {r:List (Nat×Bool)} {a:Act} {w:World} {o:Oper} {v:Value} (ho:l[i]?=some o) (hw:Region.wanted o (yielded l.toArray a.tmps)=true)
 (hy:∀w0,S w0→(execOp a.eval o).run P w0=.ok (.value v) w0) (h:Cr P l Q f S n r (a.put o.dst v) w):Cr P l Q f S n ((i,false)::r) a w :=
 ⟨o,v,ho,.inl ⟨hw,hy⟩,h⟩
theorem Pa {l:List Oper} {f n i:Nat} {r:List (Nat×Bool)} {a:Act} {w:World} {o:Oper} (ho:l[i]?=some o) (hw:Region.wanted o (yielded l.toArray a.tmps)=false)
 (h:Cr P l Q f S n r (a.put o.dst undef) w):Cr P l Q f S n ((i,false)::r) a w :=
 ⟨o,undef,ho,.inr ⟨hw,rfl⟩,h⟩
theorem F7 {l:List Oper} {i:Nat} {a:Act} {w:World} {o:Oper} {K:Act→World→Prop} (ho:l[i]?=some o) (h:wpList P l.toArray (Exit.then K Q) [o] a w):wpOp P l.toArray Q i K a w:=by
 have ho':l.toArray[i]?=some o:=by simpa using ho
 unfold wpOp;simp only[ho'];unfold wpList at h;split
 · rename_i hw
   rw[if_pos hw] at h;refine h.imp (fun h=>?_) id;unfold Oper.wp at h ⊢;generalize (execOp a.eval o).run P w=r at h ⊢;cases r with
   | ok nx w' =>
    cases nx<;>simp only[Oper.upon,wpList,Exit.then] at h ⊢ <;>
     first
      | exact h
      | exact Calls.mono h (fun e w'' he=>by cases e<;>exact he)
   | halt x w'=>cases x<;>simp only[Oper.upon,Exit.then] at h ⊢ <;> exact h
 rename_i hw;rw[if_neg hw] at h;exact h
theorem Fc {l:List Oper} {f n i:Nat} {r:List (Nat×Bool)} {a:Act} {w:World} {o of:Oper} (ho:l[i]?=some o) (hof:l[f]?=some of)
 (h:wpList P l.toArray (Exit.then (fun a' w'=>S w'∧Cr P l Q f S n r a' w') Q) [o] a w) (h2:wpList P l.toArray (Exit.then (fun a' w'=>S w'∧Bb P l Q S n ((i,true)::r) a' w') Q) [of] a w):Cr P l Q f S n ((i,true)::r) a w :=
 ⟨F7 ho h,F7 hof h2⟩
theorem F8 {l:List Oper} {f n:Nat} {a:Act} {w:World} {of:Oper} (hof:l[f]?=some of)
 (h2:wpList P l.toArray (Exit.then (fun a' w'=>S w'∧Bb P l Q S n [] a' w') Q) [of] a w):Cr P l Q f S n [] a w:=F7 hof h2
end
end Go.Proofs.YtngbdbpofifimaaGreat
