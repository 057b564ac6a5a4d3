/- Laws of the layers below. -/
import Derived.Test.YtngbdbpofifimaaGreatQk3
import Derived.ProofKit
import Derived.OpenShut
import Derived.ChangeOld
import Derived.Deep.Slices
set_option maxHeartbeats 3200000
set_option maxRecDepth 100000
set_option linter.unusedVariables false
namespace Go.Proofs.YtngbdbpofifimaaGreat
open Go.RowKit Go.Deep Go.ChangeShapes Go.WideShapes Go.ChangeAt
section
variable {H : Type} {enc : TypeId×Value→H} {W : World} {base : Nat} {held : Bool} {n : Nat}
theorem JF (w:World) (a:Addr) (h:a.spot.isSome=true):w.cell? a=none:=by
 unfold World.cell?;split
 · rw[if_pos h]
 rfl
theorem P4:Tryz.prog.cellsOf 5=1:=by kernel_rfl
theorem Qd:Tryz.prog.cellsOf 3=1:=by kernel_rfl
theorem Je:Tryz.prog.cellsOf 29=1:=by kernel_rfl
theorem Qo {sp:Nat→Bool} {v:Value} {x:DataW H×List MemPlace} (h:DataW.trod enc Tryz.prog W base sp held n 5 [v]=some x):∃b:UInt8,v=bv b:=by
 obtain⟨m,e,_,hw⟩:=DataW.trod_int Tryz.underlying5 h;have hb:=bounds_u8 hw;refine⟨UInt8.ofNat m.toNat,?_⟩;cases e;have:(UInt8.ofNat m.toNat).toNat=m.toNat:=by simp;omega
 unfold bv;rw[this]
 congr 1
 omega
theorem Fo {cs:List Value} {x:DataW H×List MemPlace} (h:DataW.trod enc Tryz.prog W base (fun _=>true) held n 29 cs=some x) :
 ∃v bs,cs = [v]∧Bytes W v bs∧(bs ≠ []→∀k,v.ownBlock=some k→k<W.heap.size):=by
 rcases open_slice1 Tryz.underlying29 P4 h with⟨rfl,_⟩|⟨a,len,cap,m,n',V,D,Pl,rfl,hb,hl,hm,hmm,hx,hV⟩
 · exact⟨_,[],rfl,Bytes.nil W,fun h=>absurd rfl h⟩
 simp only[if_true] at hmm;subst hmm;have hby:∀i,i<m→∃b:UInt8,V i=bv b:=fun i hi=>Qo (hV i hi).2
 obtain⟨B,hB⟩:∃B:Nat→UInt8,∀i,i<m→V i=bv (B i):=by
  refine⟨fun i=>if hi:i<m then Classical.choose (hby i hi) else 0,fun i hi=>?_⟩;simp only[dif_pos hi];exact Classical.choose_spec (hby i hi)
 have hlen:((List.range len).map B).length=len:=by simp
 have hsp:0<len→∃g off,a=⟨g,off,none⟩:=fun h0=>by
  obtain⟨g,off,spot⟩:=a;cases spot with
  | none=>exact⟨g,off,rfl⟩
  | some s =>
   have k0:=(hV 0 (by omega)).1;rw[JF _ _ rfl] at k0;cases k0
 refine⟨_,(List.range len).map B,rfl,⟨some a,m,by rw[hlen],by rw[hlen];exact hl,hm,fun j y hj=>?_⟩,fun hne k hk=>?_⟩
 · have hjl:j<len:=by
    have:=(List.getElem?_eq_some_iff.1 hj).1;simpa using this
   obtain⟨g,off,rfl⟩:=hsp (by omega);refine⟨g,off,rfl,?_⟩;have hc:=(hV j (by omega)).1;rw[hB j (by omega)] at hc;have hyj:y=B j:=by simp[hjl] at hj;exact hj.symm
   rw[hyj];simpa[add_plain] using hc
 have h0:0<len:=by
  cases len with
  | zero=>exact absurd rfl hne
  | succ l=>omega
 have hc:=(hV 0 (by omega)).1;obtain⟨g,off,rfl⟩:=hsp h0;cases hk;have:=Ky hc;simpa[add_plain] using this
def Bx (w:World) (g o:Nat) (cs:Array Value):Prop:=∃cur t fr,w.heap[g]?=some (.cells cur t fr)∧o+cs.size≤cur.size∧cur.extract o (o+cs.size)=cs
theorem Bx.IC {w:World} {g o m:Nat} {cs:List Value} (hm:0<m) (hl:cs.length=m) (h:∀i,i<m→w.cell? ⟨g,o+i,none⟩=cs[i]?):Bx w g o cs.toArray:=by
 have h0:=h 0 hm;rw[List.getElem?_eq_getElem (by omega)] at h0;unfold World.cell? at h0;cases hq:w.heap[g]? with
 | none=>simp only[hq] at h0;cases h0
 | some ob =>
  cases ob with
  | cells cur t fr =>
   have hc:∀i,i<m→cur[o+i]?=cs[i]?:=fun i hi=>by
    have:=h i hi;unfold World.cell? at this;simpa[hq] using this
   have hlast:=hc (m-1) (by omega);rw[List.getElem?_eq_getElem (show m-1<cs.length by omega)] at hlast;have hsz:=(Array.getElem?_eq_some_iff.1 hlast).1;have hsz':o+m≤cur.size:=by omega
   refine⟨cur,t,fr,hq,by simpa[hl] using hsz',?_⟩;apply Array.ext';apply List.ext_getElem?;intro i;simp only[List.size_toArray,Array.toList_extract,List.extract,hl];rw[show o+m-o=m by omega];by_cases hi:i<m
   · rw[List.getElem?_take_of_lt hi,List.getElem?_drop,Array.getElem?_toList]
     exact hc i hi
   rw[List.getElem?_eq_none (by simp;omega),List.getElem?_eq_none (by omega)]
  | _=>simp only[hq] at h0;cases h0
theorem Bx.Af {F:Nat→Prop} {w w':World} {g o:Nat} {cs:Array Value} (h:Bx w g o cs) (hc:Ch F w w') (hF:¬F g):Bx w' g o cs:=by
 obtain⟨cur,t,fr,h1,h2,h3⟩:=h;exact⟨cur,t,fr,hc.row h1 hF,h2,h3⟩
end
end Go.Proofs.YtngbdbpofifimaaGreat
