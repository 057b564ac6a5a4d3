/- Laws of the layers below. -/
import Derived.Test.YtooijgcildbnlaaGreatQj29
import Derived.Lib.SlBytesConst
import Derived.ChangeMaps5
import Derived.Sort.Walk0
set_option maxHeartbeats 3200000
set_option maxRecDepth 100000
set_option linter.unusedVariables false
namespace Go.Proofs.YtooijgcildbnlaaGreat.Law14
open Go.RowKit Go.Proofs.YtooijgcildbnlaaGreat.ShaW Go.Proofs.YtooijgcildbnlaaGreat.Path Go.Proofs.YtooijgcildbnlaaGreat.Store Go.Proofs.YtooijgcildbnlaaGreat.BE
def YY:AQ:=upd [] (Vp 0) [118]
theorem Qn {x:Int} (h0:0≤x) (h1:x≤65536):(Lit.int .i64 x).wf=true:=WalkArith.wf_i64 (by omega)
structure Ya (w0 w:World) (s v:Nat) (r:Int) (σ:AD Nd) (ν:Nms) (R:List (Int×AQ)) (tt:Nat):Prop where
 vs:Vs w0 w v s σ ν (fun _=>False)
 roots:BH σ R
 ne:r≠0
 room:σ.room=600
 live:Store.live σ≤300
 total:Store.total σ≤tt
 span:σ.slots.length≤300
section
variable {w0 w w' : World} {s v tt : Nat} {r : Int} {σ σ' : AD Nd} {ν : Nms} {R : List (Int×AQ)}
theorem LI (h:BH σ R) {p:Int×AQ} (hp:p∈R):BM σ p.1=0:=Cg (h.db hp).hand
theorem S4 (h:BH σ R) {p:Int×AQ} (hp:p∈R) (hr:σ.slots.length≤65536):(Lit.int .i64 p.1).wf=true:=by
 rcases h.there hp with h0|h1
 · rw[h0];decide
 obtain⟨x,hx,_⟩:=A8 h1;obtain⟨m,hm,_,_,hlt⟩:=AD.Ab hx;exact Qn (by omega) (by omega)
end
end Go.Proofs.YtooijgcildbnlaaGreat.Law14
namespace Go.Proofs.YtooijgcildbnlaaGreat.Store
open Go.RowKit Go.Sort Go.Proofs.YtooijgcildbnlaaGreat.ShaW Go.Proofs.YtooijgcildbnlaaGreat.Path
abbrev YW (l:List Int):List Value:=l.map (Value.int .i64)

end Go.Proofs.YtooijgcildbnlaaGreat.Store
namespace Go.Proofs.YtooijgcildbnlaaGreat.Law14
open Go.RowKit Go.Proofs.YtooijgcildbnlaaGreat.ShaW Go.Proofs.YtooijgcildbnlaaGreat.Path Go.Proofs.YtooijgcildbnlaaGreat.Store Go.Proofs.YtooijgcildbnlaaGreat.BE
def nmA:List UInt8 := [97]
def Vl:List UInt8 := [110,111,110,101]
def XZ:List UInt8 := [111,110,101,45,109,111,114,101]
def nmX (k:Nat):List UInt8 := [120,UInt8.ofNat (97+k)]
def Yc (k:Nat):Nms:=(List.range k).foldl (fun ν i=>ν.set (nmX i) 0) [(Vl,0)]

end Go.Proofs.YtooijgcildbnlaaGreat.Law14
namespace Go.Proofs.YtooijgcildbnlaaGreat.Store
open Go.RowKit Go.Proofs.YtooijgcildbnlaaGreat.ShaW Go.Proofs.YtooijgcildbnlaaGreat.Path
open Go.Maps (Keyed)
abbrev Hms:=List (List UInt8×List UInt8)
def Hms.names (κ:Hms):List (List UInt8):=κ.map Prod.fst
def Hms.get (κ:Hms) (x:List UInt8):List UInt8:=((κ.find? (fun p=>decide (p.1=x))).map Prod.snd).getD (List.replicate 32 0)
def WT (v:Value):Option (DataW Value×List MemPlace):=some (.held v,[])
def VF (d:List UInt8):Value:=.agg (AM d)
structure V9 (w:World) (b n:Nat) (κ:Hms):Prop where
 ex:∃D,w.ownsMap Tryz.prog 9 WT b n D∧Maps.size D=κ.length∧∀x:List UInt8,Maps.has D (.string x)=decide (x∈κ.names)∧D.atKey (.string x) (.held (VF (List.replicate 32 0)))=.held (VF (κ.get x))
 nd:κ.names.Nodup

end Go.Proofs.YtooijgcildbnlaaGreat.Store
namespace Go.Proofs.YtooijgcildbnlaaGreat
open Go.RowKit Go.Proofs.YtooijgcildbnlaaGreat.ShaW Go.Proofs.YtooijgcildbnlaaGreat.Path Go.Proofs.YtooijgcildbnlaaGreat.Store Go.Proofs.YtooijgcildbnlaaGreat.BE Go.Deep Go.ChangeShapes Go.WideShapes Go.ChangeAt
def TO (W:World) (v:Value):Prop:=∃k:List UInt8,k.length=32∧v=.agg (AM k)
def XN (W:World) (v:Value):Prop:=∃bs:List UInt8,Bytes W v bs∧(bs ≠ []→∀k,v.ownBlock=some k→k<W.heap.size)
def XL (W:World) (v:Value):Prop:=∃ao l cap,v=.slice ao (List.length l) cap∧Fm W ao l∧l.length≤cap
section
variable {H : Type} {enc : TypeId×Value→H} {W : World} {base : Nat} {v : Value} {d : DataW H} {p : List MemPlace}
theorem U4 (hv:Value.okWide Tryz.prog W .any base 24 v)
 (h:DataW.Trod enc Tryz.prog W 0 (fun _=>true) true 24 v d p):TO W v:=by
 simp only[Value.okWide,Tryz.underlying24] at hv;obtain⟨cs,rfl,_,_⟩:=hv;obtain⟨m,hm⟩:=h;obtain⟨k,e,hk⟩:=Si hm;refine⟨k,hk,?_⟩
 congr 1
 apply Array.ext';rw[show cs.toList=_ from e];rfl
end
def YM (W:World) (v:Value):Prop:=∃s:ByteArray,s.size≤maxLen∧v=.string s
end Go.Proofs.YtooijgcildbnlaaGreat
namespace Go.Proofs.YtooijgcildbnlaaGreat.Law14
open Go.RowKit Go.Proofs.YtooijgcildbnlaaGreat.ShaW Go.Proofs.YtooijgcildbnlaaGreat.Path Go.Proofs.YtooijgcildbnlaaGreat.Store Go.Proofs.YtooijgcildbnlaaGreat.BE Go.Deep Go.ChangeShapes Go.WideShapes Go.ChangeAt
structure Wr where
 key:List UInt8
 vv:Value
 val:List UInt8
 nm:List UInt8
def Wr.cells (x:Wr):Array Value:=(x.key.map bv ++ [x.vv,.string (BS x.nm)]).toArray
structure Wr.Good (w:World) (x:Wr):Prop where
 key:x.key.length=32
 val:Bytes w x.vv x.val
 blk:x.val ≠ []→∀k,x.vv.ownBlock=some k→k<w.heap.size
 nm:x.nm.length≤maxLen
section
variable {x : Wr} (h : x.key.length=32)
include h
end
def Rz (w:World) (ao:Option Addr) (l:List Wr):Prop:=(∀x∈l,x.Good w)∧∀i x,l[i]?=some x→∃(g off:Nat),ao=some ⟨g,off,none⟩∧CO w g (off+i*34) x.cells
def Wy (W:World) (v:Value):Prop:=∃ao l cap,v=.slice ao (List.length l) cap∧Rz W ao l

end Go.Proofs.YtooijgcildbnlaaGreat.Law14
namespace Go.Proofs.YtooijgcildbnlaaGreat.Law14
open Go.RowKit Go.Proofs.YtooijgcildbnlaaGreat.ShaW Go.Proofs.YtooijgcildbnlaaGreat.Path Go.Proofs.YtooijgcildbnlaaGreat.Store Go.Proofs.YtooijgcildbnlaaGreat.BE
abbrev Nmd:=List (List UInt8×Int×AQ)
def ED (M:Nmd):Nms:=M.map fun p=>(p.1,p.2.1)
def Yd (M:Nmd):Hms:=M.map fun p=>(p.1,(tree 256 p.2.2).dig)
def Ir (M:Nmd):List (Int×AQ):=M.map fun p=>(p.2.1,p.2.2)
def Dn (M:Nmd):List (List UInt8):=M.map Prod.fst
theorem CA (M:Nmd):(ED M).names=Dn M:=by simp[ED,Nms.names,Dn]
theorem FM (M:Nmd):(ED M).length=M.length:=by simp[ED]
theorem Il {M:Nmd} {x:List UInt8} (h:x∈Dn M):∃p∈M,p.1=x:=by simpa[Dn] using h
structure Sty (w0 w:World) (s v bm xb:Nat) (σ:AD Nd) (R:List (Int×AQ)) (M:Nmd) (κ:Hms) (ln tn:Nat):Prop where
 vs:Vs w0 w v s σ (ED M) (fun j=>j=bm∨j=xb)
 rts:BH σ R
 room:σ.room=5160
 live:Store.live σ≤ln
 total:Store.total σ≤tn
 hm:V9 w bm κ.length κ
 bb:w0.heap.size≤bm
section
variable {w0 w w' : World} {s v bm xb ln tn : Nat} {σ : AD Nd} {root : Int} {L : AQ} {R : List (Int×AQ)} {M : Nmd} {κ : Hms}
def Iy (M:Nmd) (x:List UInt8):Nmd:=M.filter fun p => !decide (p.1=x)
theorem SQ (M:Nmd) (x:List UInt8):(ED M).cut x=ED (Iy M x):=by
 unfold ED Nms.cut Iy;rw[List.filter_map];rfl
theorem Mz:∀ {M:Nmd} {p:List UInt8×Int×AQ},(Dn M).Nodup→p∈M→(Ir M).Perm ((p.2.1,p.2.2)::Ir (Iy M p.1))
 | [],p,_,h=>by cases h
 | q::M,p,hn,h=>by
  obtain⟨n1,n2⟩:=List.nodup_cons.1 (show(q.1::Dn M).Nodup from hn);rcases List.mem_cons.1 h with rfl|hp
  · have:Iy (p::M) p.1=M:=by
     unfold Iy;rw[List.filter_cons,if_neg (by simp)];refine List.filter_eq_self.2 fun r hr=>?_
     have:r.1≠p.1:=fun e=>n1 (by rw[←e];exact List.mem_map_of_mem hr)
     simp[this]
    rw[this];exact .refl _
  have hne:q.1≠p.1:=fun e=>n1 (by rw[e];exact List.mem_map_of_mem hp)
  have:Iy (q::M) p.1=q::Iy M p.1:=by unfold Iy;rw[List.filter_cons,if_pos (by simp[hne])]
  rw[this];exact((Mz n2 hp).cons (q.2.1,q.2.2)).trans (List.Perm.swap ..)
theorem FJ {M:Nmd} (hn:(Dn M).Nodup) {p:List UInt8×Int×AQ} (hp:p∈M):(ED M).get p.1=p.2.1:=by
 have:(p.1,p.2.1)∈ED M:=List.mem_map_of_mem (f:=fun p:List UInt8×Int×AQ=>(p.1,p.2.1)) hp;exact Nms.get_mem (by rw[CA];exact hn) this
end
def YI (w:World) (xb:Nat) (ao:Option Addr) (l:List (List UInt8)):Prop:=∀(k:Nat) x,l[k]?=some x→ao=some ⟨xb,0,none⟩∧w.cell? ⟨xb,k,none⟩=some (.string (BS x))
theorem Ex {M:Nmd} {x:List UInt8} (h:x∈FY (ED M)):∃p∈M,p.1=x:=Il (by rw[←CA];exact QZ.1 h)
def X2 (M:Nmd) (l:List (List UInt8)):Nmd:=M.filter fun p => !decide (p.1∈l)
end Go.Proofs.YtooijgcildbnlaaGreat.Law14
