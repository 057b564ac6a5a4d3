/- Laws of the layers below. -/
import Derived.Test.YtngbdbpofifimaaGreatQl3
import Derived.ProofKit
import Derived.OpenShut
import Derived.ChangeOld
import Derived.Deep.Slices
set_option maxHeartbeats 3200000
set_option maxRecDepth 100000
set_option linter.unusedVariables false
namespace Go.Proofs.YtngbdbpofifimaaGreat
open Go.RowKit Go.Deep Go.ChangeShapes Go.WideShapes Go.ChangeAt
section
variable {H : Type} {enc : TypeId×Value→H} {W : World} {base : Nat} {held : Bool} {n : Nat}
theorem Ig (w:World) (a:Addr) (h:a.spot.isSome=true):w.cell? a=none:=by
 unfold World.cell?;split
 · rw[if_pos h]
 rfl
theorem Lh:Tryz.prog.cellsOf 5=1:=by kernel_rfl
theorem T7:Tryz.prog.cellsOf 3=1:=by kernel_rfl
theorem Kf:Tryz.prog.cellsOf 29=1:=by kernel_rfl
theorem NZ {sp:Nat→Bool} {v:Value} {x:DataW H×List MemPlace} (h:DataW.trod enc Tryz.prog W base sp held n 5 [v]=some x):∃b:UInt8,v=bv b:=by
 obtain⟨m,e,_,hw⟩:=DataW.trod_int Tryz.underlying5 h;have hb:=bounds_u8 hw;refine⟨UInt8.ofNat m.toNat,?_⟩;cases e;have:(UInt8.ofNat m.toNat).toNat=m.toNat:=by simp;omega
 unfold bv;rw[this]
 congr 1
 omega
theorem Gw {cs:List Value} {x:DataW H×List MemPlace} (h:DataW.trod enc Tryz.prog W base (fun _=>true) held n 29 cs=some x) :
 ∃v bs,cs = [v]∧Bytes W v bs∧(bs ≠ []→∀k,v.ownBlock=some k→k<W.heap.size):=by
 rcases open_slice1 Tryz.underlying29 Lh h with⟨rfl,_⟩|⟨a,len,cap,m,n',V,D,Pl,rfl,hb,hl,hm,hmm,hx,hV⟩
 · exact⟨_,[],rfl,Bytes.nil W,fun h=>absurd rfl h⟩
 simp only[if_true] at hmm;subst hmm;have hby:∀i,i<m→∃b:UInt8,V i=bv b:=fun i hi=>NZ (hV i hi).2
 obtain⟨B,hB⟩:∃B:Nat→UInt8,∀i,i<m→V i=bv (B i):=by
  refine⟨fun i=>if hi:i<m then Classical.choose (hby i hi) else 0,fun i hi=>?_⟩;simp only[dif_pos hi];exact Classical.choose_spec (hby i hi)
 have hlen:((List.range len).map B).length=len:=by simp
 have hsp:0<len→∃g off,a=⟨g,off,none⟩:=fun h0=>by
  obtain⟨g,off,spot⟩:=a;cases spot with
  | none=>exact⟨g,off,rfl⟩
  | some s =>
   have k0:=(hV 0 (by omega)).1;rw[Ig _ _ rfl] at k0;cases k0
 refine⟨_,(List.range len).map B,rfl,⟨some a,m,by rw[hlen],by rw[hlen];exact hl,hm,fun j y hj=>?_⟩,fun hne k hk=>?_⟩
 · have hjl:j<len:=by
    have:=(List.getElem?_eq_some_iff.1 hj).1;simpa using this
   obtain⟨g,off,rfl⟩:=hsp (by omega);refine⟨g,off,rfl,?_⟩;have hc:=(hV j (by omega)).1;rw[hB j (by omega)] at hc;have hyj:y=B j:=by simp[hjl] at hj;exact hj.symm
   rw[hyj];simpa[add_plain] using hc
 have h0:0<len:=by
  cases len with
  | zero=>exact absurd rfl hne
  | succ l=>omega
 have hc:=(hV 0 (by omega)).1;obtain⟨g,off,rfl⟩:=hsp h0;cases hk;have:=MI hc;simpa[add_plain] using this
theorem TS:Tryz.prog.cellsOf 47=32:=by kernel_rfl
theorem U4 {sp:Nat→Bool} {cs:List Value} {x:DataW H×List MemPlace} (h:DataW.trod enc Tryz.prog W base sp held n 47 cs=some x):∃k:List UInt8,cs=k.map bv∧k.length=32:=by
 obtain⟨xs,m,rfl,hx,hl,hxl,hf⟩:=DataW.trod_array Tryz.underlying47 h;have hl':cs.length=32:=hl.trans TS
 have hby:∀(i:Nat) (v:Value),cs[i]?=some v→∃b:UInt8,v=bv b:=fun i v hv=>by
  have hi:i<32:=by have:=(List.getElem?_eq_some_iff.1 hv).1;omega
  have h1:=hf i hi;rw[Lh,Nat.mul_one] at h1
  have h2:(cs.drop i).take 1 = [v]:=by
   have hlt:i<cs.length:=by omega
   rw[List.drop_eq_getElem_cons hlt];rw[List.getElem?_eq_getElem hlt] at hv;cases hv;rfl
  rw[h2] at h1;have hxi:i<xs.length:=by omega
  rw[List.getElem?_eq_getElem hxi] at h1;exact NZ h1
 clear hf hl hxl hx h
 have:∀(l:List Value),(∀(i:Nat) (v:Value),l[i]?=some v→∃b:UInt8,v=bv b)→∃k:List UInt8,l=k.map bv:=fun l=>by
  induction l with
  | nil=>intro _;exact⟨[],rfl⟩
  | cons a l ih =>
   intro hq;obtain⟨b,rfl⟩:=hq 0 a rfl;obtain⟨k,rfl⟩:=ih (fun i v hv=>hq (i+1) v (by simpa using hv));exact⟨b::k,rfl⟩
 obtain⟨k,rfl⟩:=this cs hby;exact⟨k,rfl,by simpa using hl'⟩
def CX (w:World) (g o:Nat) (cs:Array Value):Prop:=∃cur t fr,w.heap[g]?=some (.cells cur t fr)∧o+cs.size≤cur.size∧cur.extract o (o+cs.size)=cs
theorem CX.ID {w:World} {g o m:Nat} {cs:List Value} (hm:0<m) (hl:cs.length=m) (h:∀i,i<m→w.cell? ⟨g,o+i,none⟩=cs[i]?):CX w g o cs.toArray:=by
 have h0:=h 0 hm;rw[List.getElem?_eq_getElem (by omega)] at h0;unfold World.cell? at h0;cases hq:w.heap[g]? with
 | none=>simp only[hq] at h0;cases h0
 | some ob =>
  cases ob with
  | cells cur t fr =>
   have hc:∀i,i<m→cur[o+i]?=cs[i]?:=fun i hi=>by
    have:=h i hi;unfold World.cell? at this;simpa[hq] using this
   have hlast:=hc (m-1) (by omega);rw[List.getElem?_eq_getElem (show m-1<cs.length by omega)] at hlast;have hsz:=(Array.getElem?_eq_some_iff.1 hlast).1;have hsz':o+m≤cur.size:=by omega
   refine⟨cur,t,fr,hq,by simpa[hl] using hsz',?_⟩;apply Array.ext';apply List.ext_getElem?;intro i;simp only[List.size_toArray,Array.toList_extract,List.extract,hl];rw[show o+m-o=m by omega];by_cases hi:i<m
   · rw[List.getElem?_take_of_lt hi,List.getElem?_drop,Array.getElem?_toList]
     exact hc i hi
   rw[List.getElem?_eq_none (by simp;omega),List.getElem?_eq_none (by omega)]
  | _=>simp only[hq] at h0;cases h0
theorem CX.Af {F:Nat→Prop} {w w':World} {g o:Nat} {cs:Array Value} (h:CX w g o cs) (hc:Ch F w w') (hF:¬F g):CX w' g o cs:=by
 obtain⟨cur,t,fr,h1,h2,h3⟩:=h;exact⟨cur,t,fr,hc.row h1 hF,h2,h3⟩
end
end Go.Proofs.YtngbdbpofifimaaGreat
