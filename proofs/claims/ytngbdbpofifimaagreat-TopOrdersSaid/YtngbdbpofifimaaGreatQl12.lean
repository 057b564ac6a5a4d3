/- Laws of the layers below. -/
import Derived.Test.YtngbdbpofifimaaGreatQl4
import Derived.Test.YtngbdbpofifimaaGreatQl11
set_option maxHeartbeats 3200000
set_option maxRecDepth 100000
set_option linter.unusedVariables false
namespace Go.Proofs.YtngbdbpofifimaaGreat.Law9
open Go.RowKit Go.Proofs.YtngbdbpofifimaaGreat.ShaW Go.Proofs.YtngbdbpofifimaaGreat.Path Go.Proofs.YtngbdbpofifimaaGreat.Store Go.Deep Go.ChangeShapes Go.WideShapes Go.ChangeAt
structure Xb where
 kind:Int
 key:List UInt8
 vv:Value
 val:List UInt8
 h:Int
section
variable {x : Xb} (h : x.key.length=32)
include h
end
structure Pr where
 key:List UInt8
 vv:Value
 val:List UInt8
def Pr.cells (x:Pr):Array Value:=(x.key.map bv ++ [x.vv]).toArray
structure Pr.Good (w:World) (x:Pr):Prop where
 key:x.key.length=32
 val:Bytes w x.vv x.val
 blk:x.val ≠ []→∀k,x.vv.ownBlock=some k→k<w.heap.size
def Pr.ent (x:Pr):List UInt8×List UInt8:=(x.key,x.val)
section
variable {x : Pr} (h : x.key.length=32)
include h
theorem Pr.size:x.cells.size=33:=by simp[Pr.cells,h]
omit h in
theorem Pr.list:x.cells.toList=x.key.map bv ++ [x.vv]:=rfl
theorem Pr.BX:x.cells.extract 0 (0+32)=AK x.key:=by
 apply Array.ext';simp only[Array.toList_extract,List.extract,Pr.list,AK,List.drop_zero];rw[List.take_append_of_le_length (by simp[h]),List.take_of_length_le (by simp[h])]
theorem Pr.Hc:x.cells[32]?=some x.vv:=by
 rw[←Array.getElem?_toList,Pr.list,List.getElem?_append_right (by simp[h])];simp[h]
end
theorem Pr.one {w:World} {x:Pr} (h:x.Good w):∀v∈x.cells.toList,v.oneCell'=true:=fun v hv=>by
 rw[Pr.list,List.mem_append,List.mem_map,List.mem_singleton] at hv;rcases hv with⟨b,_,rfl⟩|rfl
 · rfl
 obtain⟨ao,cap,e,_⟩:=h.val.form;rw[e];rfl
theorem Pr.Good.Af {F:Nat→Prop} {w w':World} {x:Pr} (h:x.Good w) (hc:Ch F w w') (hF:∀k,F k→w.heap.size≤k):x.Good w' :=
 ⟨h.key,h.val.JN hc (fun h0 k hk hf=>by have:=h.blk h0 k hk;have:=hF k hf;omega),fun h0 k hk=>Nat.lt_of_lt_of_le (h.blk h0 k hk) hc.size⟩
def BA (w:World) (ao:Option Addr) (l:List Pr):Prop:=(∀x∈l,x.Good w)∧∀i x,l[i]?=some x→∃(g off:Nat),ao=some ⟨g,off,none⟩∧CX w g (off+i*33) x.cells
theorem BA.Af {F:Nat→Prop} {w w':World} {ao:Option Addr} {l:List Pr} (h:BA w ao l) (hc:Ch F w w') (hF:∀k,F k→w.heap.size≤k):BA w' ao l:=⟨fun x hx=>(h.1 x hx).Af hc hF,fun i x hi=>by
 obtain⟨g,off,h1,h3⟩:=h.2 i x hi;refine⟨g,off,h1,h3.Af hc (fun hf=>?_)⟩;obtain⟨cur,t,fr,hr,_⟩:=h3;have:=Ac hr;have:=hF g hf;omega⟩

def EN {α:Type} (m:Nat) (cells:α→Array Value) (w:World) (ao:Option Addr) (l:List α):Prop:=∀i x,l[i]?=some x→∃(g off:Nat),ao=some ⟨g,off,none⟩∧CX w g (off+i*m) (cells x)
theorem EN.Af {α:Type} {m:Nat} {cells:α→Array Value} {F:Nat→Prop} {w w':World} {ao:Option Addr} {l:List α} (h:EN m cells w ao l) (hc:Ch F w w') (hF:∀k,F k→w.heap.size≤k):EN m cells w' ao l:=fun i x hi=>by
 obtain⟨g,off,h1,h3⟩:=h i x hi;refine⟨g,off,h1,h3.Af hc (fun hf=>?_)⟩;obtain⟨cur,t,fr,hr,_⟩:=h3;have:=Ac hr;have:=hF g hf;omega
section
variable {H : Type} {enc : TypeId×Value→H} {W : World} {base : Nat}
theorem Ut {α:Type} [Inhabited α] {m:Nat} (hm0:0<m) {good:α→Prop} {cells:α→Array Value} {st T:TypeId} (hst:Tryz.prog.underlying st=some (.slice T)) (hct:Tryz.prog.cellsOf T=m)
 (read:∀ {n:Nat} {cs:List Value} {y:DataW H×List MemPlace},DataW.trod enc Tryz.prog W base (fun _=>true) true n T cs=some y→∃x:α,good x∧cs=(cells x).toList)
 {n:Nat} {cs:List Value} {y:DataW H×List MemPlace} (h:DataW.trod enc Tryz.prog W base (fun _=>true) true n st cs=some y) :
 ∃(ao:Option Addr) (l:List α) (cap:Nat),cs = [.slice ao l.length cap]∧(∀x∈l,good x)∧EN m cells W ao l:=by
 rcases open_slice hst h with⟨h0,_⟩|⟨a,len,cap,mm,n,D,Pl,hcs,hb,hl,hc,hmm,hx,hi⟩
 · exact⟨none,[],0,h0,fun x hx=>(by cases hx),fun i x hi=>(by simp at hi)⟩
 have one:∀i,i<len→∃x:α,good x∧∃g off,a=⟨g,off,none⟩∧CX W g (off+i*m) (cells x):=fun i hil=>by
  obtain⟨cs',h1,h2⟩:=hi i (by rw[hmm];simp only[if_true];exact Nat.lt_of_lt_of_le hil hl);rw[hct] at h1;obtain⟨x,hg,rfl⟩:=read h2;obtain⟨_,hlen,h3⟩:=World.cells?_some h1;obtain⟨g,off,spot⟩:=a;cases spot with
  | none =>
   refine⟨x,hg,g,off,rfl,?_⟩;have:=CX.ID (w:=W) (g:=g) (o:=off+i*m) (m:=m) (cs:=(cells x).toList) hm0 hlen (fun j hj=>by have:=h3 j hj;simpa only[add_plain] using this);exact this
  | some s =>
   exfalso;obtain⟨cs',h1,h2⟩:=hi 0 (by rw[hmm];simp only[if_true];exact Nat.lt_of_lt_of_le (Nat.lt_of_le_of_lt (Nat.zero_le _) hil) hl);rw[hct] at h1;obtain⟨x,hg,rfl⟩:=read h2;obtain⟨_,hlen,h3⟩:=World.cells?_some h1;have k0:=h3 0 hm0;rw[Ig _ _ (by simp[Addr.add])] at k0;have hp:0<(cells x).toList.length:=by rw[hlen];exact hm0
   rw[List.getElem?_eq_getElem hp] at k0;cases k0
 obtain⟨B,hB⟩:∃B:Nat→α,∀i,i<len→good (B i)∧∃g off,a=⟨g,off,none⟩∧CX W g (off+i*m) (cells (B i)):=by
  refine⟨fun i=>if hi:i<len then Classical.choose (one i hi) else default,fun i hi=>?_⟩;simp only[dif_pos hi];exact Classical.choose_spec (one i hi)
 refine⟨some a,(List.range len).map B,cap,by rw[hcs];simp,fun x hx=>?_,fun i x hi=>?_⟩
 · obtain⟨j,hj,rfl⟩:=List.mem_map.1 hx
   exact(hB j (List.mem_range.1 hj)).1
 have hil:i<len:=by
  have:=(List.getElem?_eq_some_iff.1 hi).1;simpa using this
 have:x=B i:=by simp[hil] at hi;exact hi.symm
 subst this;obtain⟨_,g,off,h1,h2⟩:=hB i hil;exact⟨g,off,by rw[h1],h2⟩
end
def PA (m:Nat) (a:Option Addr) (cap i:Nat):Option Addr:=if cap=i then a else a.map (·.add (i*m))
theorem EN.take {α:Type} {m:Nat} {cells:α→Array Value} {w:World} {ao:Option Addr} {l:List α} (h:EN m cells w ao l) (n:Nat):EN m cells w ao (l.take n):=fun i x hi=>by
 rw[List.getElem?_take] at hi;split at hi
 · exact h i x hi
 cases hi
theorem EN.drop {α:Type} {m:Nat} {cells:α→Array Value} {w:World} {ao:Option Addr} {l:List α} (h:EN m cells w ao l) (n cap:Nat) (hc:l.length≤cap):EN m cells w (PA m ao cap n) (l.drop n):=fun i x hi=>by
 rw[List.getElem?_drop] at hi;obtain⟨g,off,rfl,hp⟩:=h _ x hi;have hn:n+i<l.length:=(List.getElem?_eq_some_iff.1 hi).1;refine⟨g,off+n*m,?_,by rw[show off+n*m+i*m=off+(n+i)*m by rw[Nat.add_mul];omega];exact hp⟩;unfold PA;rw[if_neg (by omega)];simp[add_plain]
theorem QG {cur cs:Array Value} {o i:Nat} {v:Value} (h3:cur.extract o (o+cs.size)=cs) (hi:cs[i]?=some v):cur[o+i]?=some v:=by
 rw[←h3,Array.getElem?_extract] at hi;simp at hi;exact hi.2
theorem Tb {cur cs K:Array Value} {o n:Nat} (h3:cur.extract o (o+cs.size)=cs) (hn:n≤cs.size) (hk:cs.extract 0 (0+n)=K):cur.extract o (o+n)=K:=by
 rw[←hk, ←h3,Array.extract_extract]
 congr 1
 omega
end Go.Proofs.YtngbdbpofifimaaGreat.Law9
