/- Laws of the layers below. -/
import Derived.ProofKit
import Derived.OpenShut
import Derived.ChangeOld
import Derived.Deep.Slices
import Derived.Test.YtooijgcildbnlaaGreatQg18
set_option maxHeartbeats 3200000
set_option maxRecDepth 100000
set_option linter.unusedVariables false
namespace Go.Proofs.YtooijgcildbnlaaGreat
open Go.RowKit Go.Deep Go.ChangeShapes Go.WideShapes Go.ChangeAt
section
variable {H : Type} {enc : TypeId×Value→H} {W : World} {base : Nat} {held : Bool} {n : Nat}
theorem Iz (w:World) (a:Addr) (h:a.spot.isSome=true):w.cell? a=none:=by
 unfold World.cell?;split
 · rw[if_pos h]
 rfl
theorem Ka:Tryz.prog.cellsOf 5=1:=by kernel_rfl
theorem R0:Tryz.prog.cellsOf 3=1:=by kernel_rfl
theorem OL:Tryz.prog.cellsOf 73=1:=by kernel_rfl
theorem Ln {sp:Nat→Bool} {v:Value} {x:DataW H×List MemPlace} (h:DataW.trod enc Tryz.prog W base sp held n 5 [v]=some x):∃b:UInt8,v=bv b:=by
 obtain⟨m,e,_,hw⟩:=DataW.trod_int Tryz.underlying5 h;have hb:=bounds_u8 hw;refine⟨UInt8.ofNat m.toNat,?_⟩;cases e;have:(UInt8.ofNat m.toNat).toNat=m.toNat:=by simp;omega
 unfold bv;rw[this]
 congr 1
 omega
theorem QN {cs:List Value} {x:DataW H×List MemPlace} (h:DataW.trod enc Tryz.prog W base (fun _=>true) held n 73 cs=some x) :
 ∃v bs,cs = [v]∧Bytes W v bs∧(bs ≠ []→∀k,v.ownBlock=some k→k<W.heap.size):=by
 rcases open_slice1 Tryz.underlying73 Ka h with⟨rfl,_⟩|⟨a,len,cap,m,n',V,D,Pl,rfl,hb,hl,hm,hmm,hx,hV⟩
 · exact⟨_,[],rfl,Bytes.nil W,fun h=>absurd rfl h⟩
 simp only[if_true] at hmm;subst hmm;have hby:∀i,i<m→∃b:UInt8,V i=bv b:=fun i hi=>Ln (hV i hi).2
 obtain⟨B,hB⟩:∃B:Nat→UInt8,∀i,i<m→V i=bv (B i):=by
  refine⟨fun i=>if hi:i<m then Classical.choose (hby i hi) else 0,fun i hi=>?_⟩;simp only[dif_pos hi];exact Classical.choose_spec (hby i hi)
 have hlen:((List.range len).map B).length=len:=by simp
 have hsp:0<len→∃g off,a=⟨g,off,none⟩:=fun h0=>by
  obtain⟨g,off,spot⟩:=a;cases spot with
  | none=>exact⟨g,off,rfl⟩
  | some s =>
   have k0:=(hV 0 (by omega)).1;rw[Iz _ _ rfl] at k0;cases k0
 refine⟨_,(List.range len).map B,rfl,⟨some a,m,by rw[hlen],by rw[hlen];exact hl,hm,fun j y hj=>?_⟩,fun hne k hk=>?_⟩
 · have hjl:j<len:=by
    have:=(List.getElem?_eq_some_iff.1 hj).1;simpa using this
   obtain⟨g,off,rfl⟩:=hsp (by omega);refine⟨g,off,rfl,?_⟩;have hc:=(hV j (by omega)).1;rw[hB j (by omega)] at hc;have hyj:y=B j:=by simp[hjl] at hj;exact hj.symm
   rw[hyj];simpa[add_plain] using hc
 have h0:0<len:=by
  cases len with
  | zero=>exact absurd rfl hne
  | succ l=>omega
 have hc:=(hV 0 (by omega)).1;obtain⟨g,off,rfl⟩:=hsp h0;cases hk;have:=Kt hc;simpa[add_plain] using this
theorem Rj:Tryz.prog.cellsOf 24=32:=by kernel_rfl
theorem S2 {sp:Nat→Bool} {cs:List Value} {x:DataW H×List MemPlace} (h:DataW.trod enc Tryz.prog W base sp held n 24 cs=some x):∃k:List UInt8,cs=k.map bv∧k.length=32:=by
 obtain⟨xs,m,rfl,hx,hl,hxl,hf⟩:=DataW.trod_array Tryz.underlying24 h;have hl':cs.length=32:=hl.trans Rj
 have hby:∀(i:Nat) (v:Value),cs[i]?=some v→∃b:UInt8,v=bv b:=fun i v hv=>by
  have hi:i<32:=by have:=(List.getElem?_eq_some_iff.1 hv).1;omega
  have h1:=hf i hi;rw[Ka,Nat.mul_one] at h1
  have h2:(cs.drop i).take 1 = [v]:=by
   have hlt:i<cs.length:=by omega
   rw[List.drop_eq_getElem_cons hlt];rw[List.getElem?_eq_getElem hlt] at hv;cases hv;rfl
  rw[h2] at h1;have hxi:i<xs.length:=by omega
  rw[List.getElem?_eq_getElem hxi] at h1;exact Ln h1
 clear hf hl hxl hx h
 have:∀(l:List Value),(∀(i:Nat) (v:Value),l[i]?=some v→∃b:UInt8,v=bv b)→∃k:List UInt8,l=k.map bv:=fun l=>by
  induction l with
  | nil=>intro _;exact⟨[],rfl⟩
  | cons a l ih =>
   intro hq;obtain⟨b,rfl⟩:=hq 0 a rfl;obtain⟨k,rfl⟩:=ih (fun i v hv=>hq (i+1) v (by simpa using hv));exact⟨b::k,rfl⟩
 obtain⟨k,rfl⟩:=this cs hby;exact⟨k,rfl,by simpa using hl'⟩
def D7 (w:World) (g o:Nat) (cs:Array Value):Prop:=∃cur t fr,w.heap[g]?=some (.cells cur t fr)∧o+cs.size≤cur.size∧cur.extract o (o+cs.size)=cs
theorem D7.Na {w:World} {g o m:Nat} {cs:List Value} (hm:0<m) (hl:cs.length=m) (h:∀i,i<m→w.cell? ⟨g,o+i,none⟩=cs[i]?):D7 w g o cs.toArray:=by
 have h0:=h 0 hm;rw[List.getElem?_eq_getElem (by omega)] at h0;unfold World.cell? at h0;cases hq:w.heap[g]? with
 | none=>simp only[hq] at h0;cases h0
 | some ob =>
  cases ob with
  | cells cur t fr =>
   have hc:∀i,i<m→cur[o+i]?=cs[i]?:=fun i hi=>by
    have:=h i hi;unfold World.cell? at this;simpa[hq] using this
   have hlast:=hc (m-1) (by omega);rw[List.getElem?_eq_getElem (show m-1<cs.length by omega)] at hlast;have hsz:=(Array.getElem?_eq_some_iff.1 hlast).1;have hsz':o+m≤cur.size:=by omega
   refine⟨cur,t,fr,hq,by simpa[hl] using hsz',?_⟩;apply Array.ext';apply List.ext_getElem?;intro i;simp only[List.size_toArray,Array.toList_extract,List.extract,hl];rw[show o+m-o=m by omega];by_cases hi:i<m
   · rw[List.getElem?_take_of_lt hi,List.getElem?_drop,Array.getElem?_toList]
     exact hc i hi
   rw[List.getElem?_eq_none (by simp;omega),List.getElem?_eq_none (by omega)]
  | _=>simp only[hq] at h0;cases h0
theorem D7.Am {F:Nat→Prop} {w w':World} {g o:Nat} {cs:Array Value} (h:D7 w g o cs) (hc:Ch F w w') (hF:¬F g):D7 w' g o cs:=by
 obtain⟨cur,t,fr,h1,h2,h3⟩:=h;exact⟨cur,t,fr,hc.row h1 hF,h2,h3⟩
end
end Go.Proofs.YtooijgcildbnlaaGreat
namespace Go.Proofs.YtooijgcildbnlaaGreat.CI
open Go.RowKit Go.Proofs.YtooijgcildbnlaaGreat.ShaW Go.Proofs.YtooijgcildbnlaaGreat.Path Go.Proofs.YtooijgcildbnlaaGreat.Store Go.Deep Go.ChangeShapes Go.WideShapes Go.ChangeAt
structure K8 where
 kind:Int
 key:List UInt8
 vv:Value
 val:List UInt8
 h:Int
def K8.cells (x:K8):Array Value:=(.int .i64 x.kind::(x.key.map bv ++ [x.vv,.int .i64 x.h])).toArray
structure K8.Good (w:World) (x:K8):Prop where
 key:x.key.length=32
 val:Bytes w x.vv x.val
 blk:x.val ≠ []→∀k,x.vv.ownBlock=some k→k<w.heap.size
section
variable {x : K8} (h : x.key.length=32)
include h
end
structure Pr where
 key:List UInt8
 vv:Value
 val:List UInt8
def Pr.cells (x:Pr):Array Value:=(x.key.map bv ++ [x.vv]).toArray
structure Pr.Good (w:World) (x:Pr):Prop where
 key:x.key.length=32
 val:Bytes w x.vv x.val
 blk:x.val ≠ []→∀k,x.vv.ownBlock=some k→k<w.heap.size
def Pr.ent (x:Pr):List UInt8×List UInt8:=(x.key,x.val)
section
variable {x : Pr} (h : x.key.length=32)
include h
theorem Pr.size:x.cells.size=33:=by simp[Pr.cells,h]
omit h in
theorem Pr.list:x.cells.toList=x.key.map bv ++ [x.vv]:=rfl
theorem Pr.Bh:x.cells.extract 0 (0+32)=AJ x.key:=by
 apply Array.ext';simp only[Array.toList_extract,List.extract,Pr.list,AJ,List.drop_zero];rw[List.take_append_of_le_length (by simp[h]),List.take_of_length_le (by simp[h])]
theorem Pr.I3:x.cells[32]?=some x.vv:=by
 rw[←Array.getElem?_toList,Pr.list,List.getElem?_append_right (by simp[h])];simp[h]
end
theorem Pr.one {w:World} {x:Pr} (h:x.Good w):∀v∈x.cells.toList,v.oneCell'=true:=fun v hv=>by
 rw[Pr.list,List.mem_append,List.mem_map,List.mem_singleton] at hv;rcases hv with⟨b,_,rfl⟩|rfl
 · rfl
 obtain⟨ao,cap,e,_⟩:=h.val.form;rw[e];rfl
theorem Pr.Good.Am {F:Nat→Prop} {w w':World} {x:Pr} (h:x.Good w) (hc:Ch F w w') (hF:∀k,F k→w.heap.size≤k):x.Good w' :=
 ⟨h.key,h.val.WS hc (fun h0 k hk hf=>by have:=h.blk h0 k hk;have:=hF k hf;omega),fun h0 k hk=>Nat.lt_of_lt_of_le (h.blk h0 k hk) hc.size⟩
def Bm (w:World) (ao:Option Addr) (l:List Pr):Prop:=(∀x∈l,x.Good w)∧∀i x,l[i]?=some x→∃(g off:Nat),ao=some ⟨g,off,none⟩∧D7 w g (off+i*33) x.cells
theorem Bm.Am {F:Nat→Prop} {w w':World} {ao:Option Addr} {l:List Pr} (h:Bm w ao l) (hc:Ch F w w') (hF:∀k,F k→w.heap.size≤k):Bm w' ao l:=⟨fun x hx=>(h.1 x hx).Am hc hF,fun i x hi=>by
 obtain⟨g,off,h1,h3⟩:=h.2 i x hi;refine⟨g,off,h1,h3.Am hc (fun hf=>?_)⟩;obtain⟨cur,t,fr,hr,_⟩:=h3;have:=Ad hr;have:=hF g hf;omega⟩

end Go.Proofs.YtooijgcildbnlaaGreat.CI
namespace Go.Proofs.YtooijgcildbnlaaGreat.CI
open Go.RowKit Go.Proofs.YtooijgcildbnlaaGreat.ShaW Go.Proofs.YtooijgcildbnlaaGreat.Path Go.Proofs.YtooijgcildbnlaaGreat.Store
theorem JT {cur cs:Array Value} {o i:Nat} {v:Value} (h3:cur.extract o (o+cs.size)=cs) (hi:cs[i]?=some v):cur[o+i]?=some v:=by
 rw[←h3,Array.getElem?_extract] at hi;simp at hi;exact hi.2
theorem MN {cur cs K:Array Value} {o n:Nat} (h3:cur.extract o (o+cs.size)=cs) (hn:n≤cs.size) (hk:cs.extract 0 (0+n)=K):cur.extract o (o+n)=K:=by
 rw[←hk, ←h3,Array.extract_extract]
 congr 1
 omega
structure St9 (w0 w:World) (s:Nat) (σ:AD Nd) (root:Int) (L:Bi) (n:Nat) (b:Nat):Prop where
 own:Ow w0 w s σ (fun _=>False)
 db:Db σ root L
 room:σ.room=n
 total:total σ≤b
def YU (l:List Pr):Bool:=decide (16<l.length)||l.any (fun x=>decide (1024<x.val.length))
def BG (l:List Pr):List Value:=l.flatMap fun x=>x.cells.toList
def Fi (l:List Pr):Prop:=∀x∈l,x.key.length=32
theorem Fi.size {l:List Pr} (h:Fi l) {x:Pr} (hx:x∈l):x.cells.toList.length=33:=by rw[Array.length_toList];exact Pr.size (h x hx)
theorem Dq:∀(l:List Pr),Fi l→(BG l).length=l.length*33
 | [],_=>by simp[BG]
 | x::l,h=>by
  have ih:=Dq l (fun y hy=>h y (List.mem_cons_of_mem _ hy));have e:BG (x::l)=x.cells.toList++BG l:=by simp[BG]
  rw[e,List.length_append,ih,h.size (List.mem_cons_self ..),List.length_cons];omega
theorem GH (l m:List Pr):BG (l++m)=BG l++BG m:=by simp[BG]
theorem FE {l:List Pr} {i:Nat} {x:Pr} (hi:l[i]?=some x):BG l=BG (l.take i)++(x.cells.toList++BG (l.drop (i+1))):=by
 obtain⟨hlt,rfl⟩:=List.getElem?_eq_some_iff.1 hi;have e:=List.take_append_drop i l;rw[List.drop_eq_getElem_cons hlt] at e;have e2:BG l=BG (l.take i++l[i]::l.drop (i+1)):=by rw[e]
 have e3:BG (l[i]::l.drop (i+1))=l[i].cells.toList++BG (l.drop (i+1)):=List.flatMap_cons;rw[e2,GH,e3]
theorem Hu {l:List Pr} (h:Fi l) {i:Nat} (hi:i≤l.length):(BG (l.take i)).length=i*33:=by
 rw[Dq _ (fun x hx=>h x (List.mem_of_mem_take hx)),List.length_take,Nat.min_eq_left hi]
theorem L7 {l:List Pr} (h:Fi l) {i:Nat} {x:Pr} (hi:l[i]?=some x):((BG l).drop (i*33)).take 33=x.cells.toList:=by
 have hlt:=(List.getElem?_eq_some_iff.1 hi).1;have hs:=h.size (List.mem_of_getElem? hi);rw[FE hi,List.drop_append_of_le_length (by rw[Hu h (by omega)];omega),List.drop_eq_nil_of_le (by rw[Hu h (by omega)];omega),List.nil_append,List.take_append_of_le_length (by omega),List.take_of_length_le (by omega)]
theorem Sb {l:List Pr} (h:Fi l) {i:Nat} (hi:i<l.length) {p:Pr} (hp:p.key.length=32):splice (BG l) (i*33) p.cells.toList=BG (l.set i p):=by
 have hx:l[i]?=some l[i]:=List.getElem?_eq_getElem hi;have hp':(l.set i p)[i]?=some p:=by simp[hi]
 have hs:=h.size (List.mem_of_getElem? hx);have hps:p.cells.toList.length=33:=by rw[Array.length_toList];exact Pr.size hp
 have e2:(l.set i p).take i=l.take i:=by rw[List.take_set_of_le (Nat.le_refl _)]
 have e3:(l.set i p).drop (i+1)=l.drop (i+1):=by rw[List.drop_set_of_lt (Nat.lt_succ_self _)]
 rw[FE hp',e2,e3,splice,hps];have ht:=Hu h (i:=i) (by omega)
 have e4:(BG l).take (i*33)=BG (l.take i):=by
  rw[FE hx,List.take_append_of_le_length (by omega),List.take_of_length_le (by omega)]
 have e5:(BG l).drop (i*33+33)=BG (l.drop (i+1)):=by
  rw[FE hx, ←List.append_assoc,List.drop_append,List.drop_eq_nil_of_le (by rw[List.length_append];omega),List.nil_append,List.length_append,ht,hs];simp
 rw[e4,e5,List.append_assoc]
def RowP (w:World) (b:Nat) (v:Value) (l:List Pr):Prop:=w.ownsRow b 141 33 v l.length (BG l)
variable {w w' : World} {b : Nat} {v : Value} {l : List Pr}
theorem RowP.form (h:RowP w b v l):∃ao cap,v=.slice ao l.length cap:=Ar h
theorem RowP.adds (h:RowP w b v l) (a:Adds w w'):RowP w' b v l:=a.owns h (fun _ _ h=>h)
theorem RowP.open (h:RowP w b v l) (hk:Fi l) (hl:0<l.length):∃g cap cur,v=.slice (some ⟨g,0,none⟩) l.length cap∧b≤g∧w.heap[g]?=some (.cells cur 141 (0,0))∧l.length*33≤cur.size ∧
 (∀i x,l[i]?=some x→cur.extract (i*33) (i*33+33)=x.cells) ∧
 ∀i p,i<l.length→p.key.length=32→RowP (w.setRow g (splice cur.toList (i*33) p.cells.toList).toArray) b v (l.set i p):=by
 obtain⟨h0,⟨_,h1⟩|⟨g,cap,cur,rfl,hb,hg,hn,hc,hs,ht⟩⟩:=h
 · omega
 have hle:l.length*33≤cap*33:=Nat.mul_le_mul_right _ hn;refine⟨g,cap,cur,rfl,hb,hg,by omega,fun i x hx=>?_,fun i p hi hp=>?_⟩
 · have hlt:=(List.getElem?_eq_some_iff.1 hx).1
   have hm:i*33+33≤l.length*33:=by have:=Nat.mul_le_mul_right 33 (show i+1≤l.length by omega);omega
   apply Array.ext';rw[←L7 hk hx, ←ht];simp only[Array.toList_extract,List.extract];rw[List.drop_take,List.take_take,show i*33+33-i*33=33 by omega,Nat.min_eq_left (by omega)]
 have hps:p.cells.toList.length=33:=by rw[Array.length_toList];exact Pr.size hp
 have hm:i*33+33≤l.length*33:=by have:=Nat.mul_le_mul_right 33 (show i+1≤l.length by omega);omega
 have hsl:(splice cur.toList (i*33) p.cells.toList).length=cap*33:=by
  unfold splice;rw[List.length_append,List.length_append,List.length_take,List.length_drop,Array.length_toList,hps];omega
 have hks:Fi (l.set i p):=fun x hx=>by
  rcases List.mem_or_eq_of_mem_set hx with h|h
  · exact hk x h
  rw[h];exact hp
 refine⟨by rw[Dq _ hks],.inr ⟨g,cap,_,by rw[List.length_set],hb,AF hg _,by rw[List.length_set];exact hn,hc,by simpa using hsl,?_⟩⟩;rw[List.length_set, ←Sb hk hi hp, ←ht];have hcl:cur.toList.length=cap*33:=by rw[Array.length_toList];exact hs
 unfold splice;rw[hps];rw[List.take_append,List.take_append,List.take_of_length_le (l:=cur.toList.take (i*33)) (by rw[List.length_take];omega),List.take_take,Nat.min_eq_left (by omega)];rw[List.length_append,List.length_take,hcl,hps,Nat.min_eq_left (by omega)];rw[List.take_of_length_le (l:=p.cells.toList) (by omega)]
 congr 1
 rw[List.drop_take]
theorem RowP.nil (w:World) (b:Nat):RowP w b (.slice none 0 0) []:=World.ownsRow_nil _ _ _ _
inductive OT:List Pr→List Pr→Prop
 | nil:OT [] []
 | new {l out:List Pr} {p:Pr} (h:OT l out) (hp:∀q∈out,q.key≠p.key):OT (l ++ [p]) (out ++ [p])
 | old {l out:List Pr} {p q:Pr} {i:Nat} (h:OT l out) (hq:out[i]?=some q) (hk:q.key=p.key):OT (l ++ [p]) (out.set i p)
end Go.Proofs.YtooijgcildbnlaaGreat.CI
namespace Go.Proofs.YtooijgcildbnlaaGreat
open Go.RowKit
section
variable {P : Program} {ops : Array Oper} {Q : Exit→Act→World→Prop} {md : Region.Mode} {S : World→Prop} {k : Nat}
def Gl (k:Nat) (S:World→Prop) (listed:Array Bool) (w:World):Prop:=listed.getD k false=true∨S w
theorem Gl.set {i:Nat} (hik:i≠k) {listed:Array Bool} {w:World}:Gl k S (listed.setIfInBounds i true) w↔Gl k S listed w:=by
 have:(listed.setIfInBounds i true).getD k false=listed.getD k false:=by
  simp only[Array.getD_eq_getD_getElem?];rw[Array.getElem?_setIfInBounds_ne hik]
 unfold Gl;rw[this]
def wpHeadK (P:Program) (md:Region.Mode) (ops:Array Oper) (Q:Exit→Act→World→Prop) (T:Array Bool→World→Prop) (n:Nat) (L:Array Bool→Act→World→Prop):Nat→Array Bool→Act→World→Prop
 | 0,listed,a,w=>L listed a w
 | f+1,listed,a,w =>
  Region.ready md ops listed ≠ []∧∀i∈Region.ready md ops listed,i<n∧wpOp P ops Q i (fun a' w'=>T (listed.setIfInBounds i true) w'∧wpHeadK P md ops Q T n L f (listed.setIfInBounds i true) a' w') a w
theorem Ff {T:Array Bool→World→Prop} {n g:Nat} {L:Array Bool→Act→World→Prop} (hL:∀listed a w,L listed a w→wpAny P md ops Q g listed a w) :
 ∀(f:Nat) (listed:Array Bool) (a:Act) (w:World),wpHeadK P md ops Q T n L f listed a w→wpAny P md ops Q (f+g) listed a w
 | 0,listed,a,w,h=>by rw[Nat.zero_add];exact hL _ _ _ h
 | f+1,listed,a,w,h=>by
  rw[show f+1+g=(f+g)+1 by omega];exact⟨fun h0=>absurd h0 h.1,fun i hi=>wpOp_mono (fun a' w' h'=>Ff hL f _ a' w' h'.2) (h.2 i hi).2⟩
theorem Hd {n i:Nat} {oi:Oper} {v:Value} {S':World→Prop} {L:Array Bool→Act→World→Prop} (hi:ops[i]?=some oi) (hik:i≠k) (hsel:∀(j:Nat) (o:Oper) cs b,ops[j]?=some o→o.op≠.select cs b)
 (hQ:∀c a w,Q (.panic c) (a.put oi.dst v) w→Q (.panic c) a w) (ht:Ge md ops n=true) (hin:i<n)
 (hdone:∀listed a w,L listed a w→∀j∈Region.ready md ops listed,n≤j)
 (hS':∀listed w,HeadInv md ops n listed→listed.getD i true=false→Gl k S listed w→S' w) :
 ∀(f:Nat) (listed:Array Bool) (a:Act) (w:World),HeadInv md ops n listed →
  (∀j oj,ops[j]?=some oj→j≠i→listed.getD j true=false→(∀e∈oj.after,Region.binds md e=true→e.on≠i)→oi.apart ops oj=true) →
  i∈Region.ready md ops listed→YieldsIf P ops S' oi v a→Gl k S listed w →
  wpHeadK P md ops Q (Gl k S) n L f (listed.setIfInBounds i true) (a.put oi.dst v) w→wpHeadK P md ops Q (Gl k S) n L (f+1) listed a w:=by
 intro f
 induction f with
 | zero =>
  intro listed a w inv _ hr hy hS H;have hun:=(mem_ready.1 hr).1;refine⟨fun h=>(by rw[h] at hr;cases hr),fun j hj=>?_⟩;have hjn:=G5 ht inv hin hun j hj;refine⟨hjn,?_⟩;by_cases hji:j=i
  · subst hji;exact hy.wpOp hi (hS' listed w inv hun hS) ⟨(Gl.set hik).2 hS,H⟩
  have:=hdone _ _ _ H j (ready_mono hj hji);omega
 | succ f ih =>
  intro listed a w inv hfree hr hy hS H;have hun:=(mem_ready.1 hr).1;refine⟨fun h=>(by rw[h] at hr;cases hr),fun j hj=>?_⟩;have hjn:=G5 ht inv hin hun j hj;refine⟨hjn,?_⟩;by_cases hji:j=i
  · subst hji;exact hy.wpOp hi (hS' listed w inv hun hS) ⟨(Gl.set hik).2 hS,H⟩
  have h1:=(H.2 j (ready_mono hj hji)).2;obtain⟨hjun,oj,hoj,hall⟩:=mem_ready.1 hj
  have hnot:∀e∈oj.after,Region.binds md e=true→e.on≠i:=fun e he hb heq=>by
   have h1:=hall e he hb;rw[heq,getD_both hun] at h1;cases h1
  have h2:=wpOp_putIf hoj (hfree j oj hoj hji hjun hnot) (fun cs b=>hsel i oi cs b hi) (fun cs b=>hsel j oj cs b hoj) hQ hy h1
  have hfree':∀k ok,ops[k]?=some ok→k≠i→(listed.setIfInBounds j true).getD k true=false →
   (∀e∈ok.after,Region.binds md e=true→e.on≠i)→oi.apart ops ok=true:=fun k ok hk hki hun hno=>by
   refine hfree k ok hk hki ?_ hno;by_cases hjk:j=k
   · subst hjk;exact hjun
   rw[getD_set_ne true hjk] at hun;exact hun
  refine wpOp_mono (fun a' w' h3=>?_) h2
  have hT:Gl k S (listed.setIfInBounds j true) w':=by
   have:=h3.2.1;rw[Array.setIfInBounds_comm _ _ (Ne.symm hji)] at this;exact(Gl.set hik).1 this
  refine⟨hT,ih (listed.setIfInBounds j true) a' w' (inv.set hj hjn) hfree' (ready_mono hr (Ne.symm hji)) h3.1 hT ?_⟩;rw[Array.setIfInBounds_comm _ _ hji];exact h3.2.2
def Ce (P:Program) (l:List Oper) (Q:Exit→Act→World→Prop) (k:Nat) (S:World→Prop) (n:Nat):List (Nat×Nat)→Bool→Act→World→Prop
 | [],_,a,w=>wpList P l.toArray Q (l.drop n) a w
 | (i,0)::r,past,a,w=>∃o v,l[i]?=some o∧YieldsIf P l.toArray (fun _=>True) o v a∧Ce P l Q k S n r past (a.put o.dst v) w
 | (i,1)::r,past,a,w=>∃o v,l[i]?=some o∧YieldsIf P l.toArray S o v a∧Ce P l Q k S n r past (a.put o.dst v) w
 | (i,_+2)::r,past,a,w=>wpOp P l.toArray Q i (fun a' w'=>((past||i == k)=true∨S w')∧Ce P l Q k S n r (past||i == k) a' w') a w
def Sv (md:Region.Mode) (ops:Array Oper) (k i:Nat):Bool:=match ops[k]? with
 | none=>false
 | some o=>o.after.any (fun e=>Region.binds md e&&(e.on == i))
def Gk (md:Region.Mode) (ops:Array Oper) (k n:Nat):List (Nat×Nat)→Array Bool→Bool
 | [],listed=>Region.seqB md ops (ops.size-n) n listed
 | (i,0)::r,listed=>decide (i<n)&&(i != k)&&(Region.ready md ops listed).contains i&&Region.free md ops listed i&&Gk md ops k n r (listed.setIfInBounds i true)
 | (i,1)::r,listed=>decide (i<n)&&(i != k)&&Sv md ops k i&&(Region.ready md ops listed).contains i&&Region.free md ops listed i&&Gk md ops k n r (listed.setIfInBounds i true)
 | (i,_+2)::r,listed=>decide (i<n)&&decide (Region.ready md ops listed = [i])&&Gk md ops k n r (listed.setIfInBounds i true)
def Kb (md:Region.Mode) (ops:Array Oper) (k n:Nat) (p:List (Nat×Nat)):Bool :=
 Region.noSelect ops&&decide (p.length=n)&&decide (n≤ops.size)&&Ge md ops n&&Gk md ops k n p (Array.replicate ops.size false)
theorem LB {listed:Array Bool} {i:Nat} (h:i<listed.size):(listed.setIfInBounds i true).getD i false=true:=by
 simp[Array.getD_eq_getD_getElem?,h]
theorem DP {l:List Oper} {n:Nat} (hsel:Region.noSelect l.toArray=true) (ht:Ge md l.toArray n=true) (hQ:∀c a a' w,Q (.panic c) a' w→Q (.panic c) a w) :
 ∀(p:List (Nat×Nat)) (past:Bool) (listed:Array Bool) (a:Act) (w:World),Gk md l.toArray k n p listed=true→HeadInv md l.toArray n listed→(past=true→listed.getD k false=true)→Gl k S listed w→Ce P l Q k S n p past a w →
 wpHeadK P md l.toArray Q (Gl k S) n (fun listed a w=>Region.seqB md l.toArray (l.toArray.size-n) n listed=true∧wpList P l.toArray Q (l.drop n) a w) p.length listed a w
 | [],past,listed,a,w,hB,_,_,_,h=>⟨hB,h⟩
 | (i,0)::r,past,listed,a,w,hB,inv,hp,hS,h=>by
  simp only[Gk,Bool.and_eq_true,decide_eq_true_eq,bne_iff_ne] at hB;obtain⟨⟨⟨⟨hin,hik⟩,hr⟩,hf⟩,hB'⟩:=hB;obtain⟨o,v,ho,hy,h'⟩:=h;have hr':i∈Region.ready md l.toArray listed:=by simpa using hr
  have ho':l.toArray[i]?=some o:=by simpa using ho
  refine Hd ho' hik (Region.noSelect_spec hsel) (fun c a w=>hQ c _ _ w) ht hin (fun listed a w hL=>seqB_ready hL.1) (fun _ _ _ _ _=>trivial) r.length listed a w inv (Region.free_spec ho' hf) hr' hy hS ?_;refine DP hsel ht hQ r past _ _ w hB' (inv.set hr' hin) (fun h=>?_) ((Gl.set hik).2 hS) h';have:=hp h;simp only[Array.getD_eq_getD_getElem?] at this ⊢;rw[Array.getElem?_setIfInBounds_ne hik];exact this
 | (i,1)::r,past,listed,a,w,hB,inv,hp,hS,h=>by
  simp only[Gk,Bool.and_eq_true,decide_eq_true_eq,bne_iff_ne] at hB;obtain⟨⟨⟨⟨⟨hin,hik⟩,hwt⟩,hr⟩,hf⟩,hB'⟩:=hB;obtain⟨o,v,ho,hy,h'⟩:=h;have hr':i∈Region.ready md l.toArray listed:=by simpa using hr
  have ho':l.toArray[i]?=some o:=by simpa using ho
  refine Hd ho' hik (Region.noSelect_spec hsel) (fun c a w=>hQ c _ _ w) ht hin (fun listed a w hL=>seqB_ready hL.1) (fun listed w inv hun hT=>?_) r.length listed a w inv (Region.free_spec ho' hf) hr' hy hS ?_
  · rcases hT with hk|hS
    · exfalso
      unfold Sv at hwt;cases hok:l.toArray[k]? with
      | none=>rw[hok] at hwt;cases hwt
      | some ok =>
       rw[hok] at hwt;simp only[Array.any_eq_true,Bool.and_eq_true,beq_iff_eq] at hwt;obtain⟨x,hx,hb,he⟩:=hwt;have:=inv.closed k ok hok hk _ (Array.getElem_mem hx) hb;rw[he,getD_both hun] at this;cases this
    exact hS
  refine DP hsel ht hQ r past _ _ w hB' (inv.set hr' hin) (fun h=>?_) ((Gl.set hik).2 hS) h';have:=hp h;simp only[Array.getD_eq_getD_getElem?] at this ⊢;rw[Array.getElem?_setIfInBounds_ne hik];exact this
 | (i,_+2)::r,past,listed,a,w,hB,inv,hp,hS,h=>by
  simp only[Gk,Bool.and_eq_true,decide_eq_true_eq] at hB;obtain⟨⟨hin,hr⟩,hB'⟩:=hB;refine⟨by rw[hr];simp,fun j hj=>?_⟩;have hji:j=i:=by rw[hr] at hj;simpa using hj
  subst hji
  have hpast:(past||j == k)=true→(listed.setIfInBounds j true).getD k false=true:=fun h=>by
   by_cases hjk:j=k
   · subst hjk
     refine LB ?_;obtain⟨_,oj,hoj,_⟩:=mem_ready.1 hj;rw[inv.size];exact(Array.getElem?_eq_some_iff.1 hoj).1
   have:past=true:=by simpa[hjk] using h
   have:=hp this;simp only[Array.getD_eq_getD_getElem?] at this ⊢;rw[Array.getElem?_setIfInBounds_ne hjk];exact this
  refine⟨hin,wpOp_mono (fun a' w' h'=>?_) h⟩;have hT:Gl k S (listed.setIfInBounds j true) w':=h'.1.imp hpast id;exact⟨hT,DP hsel ht hQ r _ _ a' w' hB' (inv.set hj hin) hpast hT h'.2⟩
theorem JB {id:Nat} {a:Act} {w:World} {l:List Oper} (k:Nat) (S:World→Prop) (n:Nat) (p:List (Nat×Nat)) (hm:P.follows .mixedOrders=true)
 (hB:Kb .any l.toArray k n p=true) (hQ:∀c a a' w,Q (.panic c) a' w→Q (.panic c) a w) (hS:S w.drew) (h:Ce P l Q k S n p false a w.drew):(Code.region id l.toArray true).wp P Q a w:=by
 simp only[Kb,Bool.and_eq_true,decide_eq_true_eq] at hB;obtain⟨⟨⟨⟨hsel,hlen⟩,hn⟩,ht⟩,hp⟩:=hB
 have inv0:HeadInv .any l.toArray n (Array.replicate l.toArray.size false) :=
  ⟨by simp,fun j oj _ hl=>(by rw[getD_replicate_false] at hl;cases hl),fun t _ ht=>getD_in (by simpa using ht) (getD_replicate_false _ _)⟩
 have H:=DP (md:=.any) hsel ht hQ p false _ a _ hp inv0 (fun h=>by cases h) (.inr hS) h;refine wp_region_any hm ?_
 have:=Ff (g:=l.toArray.size-n) (fun listed a' w' hL=>by
  have hdl:(l.drop n).length=l.toArray.size-n:=by simp
  have:=wpAny_of_seq (md:=.any) (Q':=Q) (l.drop n) n listed a' w' (fun j=>by simp[List.getElem?_drop]) (by rw[hdl];exact hL.1) hL.2
  rwa [hdl] at this) _ _ _ _ H
 rw[hlen,show n+(l.toArray.size-n)=l.toArray.size by omega] at this;exact this
theorem Jg {id:Nat} {a:Act} {w:World} {l:List Oper} (k:Nat) (S:World→Prop) (n:Nat) (p:List (Nat×Nat)) (hm:P.follows .mixedOrders=true)
 (hB:Kb .any l.toArray k n p=true) (hS:S w.drew) (h:Ce P l (NoPanic Q) k S n p false a w.drew):(Code.region id l.toArray true).wp P Q a w :=
 wp_region_noPanic (JB k S n p hm hB (fun _ _ _ _ h=>h.elim) hS h)
theorem Hr {l:List Oper} {n i:Nat} {past:Bool} {r:List (Nat×Nat)} {a:Act} {w:World} {o:Oper} {v:Value} (ho:l[i]?=some o) (hw:Region.wanted o (yielded l.toArray a.tmps)=true)
 (hy:∀w0,(execOp a.eval o).run P w0=.ok (.value v) w0) (h:Ce P l Q k S n r past (a.put o.dst v) w):Ce P l Q k S n ((i,0)::r) past a w :=
 ⟨o,v,ho,.inl ⟨hw,fun w0 _=>hy w0⟩,h⟩
theorem planK_see {l:List Oper} {n i:Nat} {past:Bool} {r:List (Nat×Nat)} {a:Act} {w:World} {o:Oper} {v:Value} (ho:l[i]?=some o) (hw:Region.wanted o (yielded l.toArray a.tmps)=true)
 (hy:∀w0,S w0→(execOp a.eval o).run P w0=.ok (.value v) w0) (h:Ce P l Q k S n r past (a.put o.dst v) w):Ce P l Q k S n ((i,1)::r) past a w :=
 ⟨o,v,ho,.inl ⟨hw,hy⟩,h⟩
theorem Nz {l:List Oper} {n i:Nat} {past:Bool} {r:List (Nat×Nat)} {a:Act} {w:World} {o:Oper} (ho:l[i]?=some o)
 (h:wpList P l.toArray (Exit.then (fun a' w'=>((past||i == k)=true∨S w')∧Ce P l Q k S n r (past||i == k) a' w') Q) [o] a w):Ce P l Q k S n ((i,2)::r) past a w:=by
 show wpOp P l.toArray Q i _ a w
 have ho':l.toArray[i]?=some o:=by simpa using ho
 unfold wpOp;simp only[ho'];unfold wpList at h;split
 · rename_i hw
   rw[if_pos hw] at h;refine h.imp (fun h=>?_) id;unfold Oper.wp at h ⊢;generalize (execOp a.eval o).run P w=r at h ⊢;cases r with
   | ok nx w' =>
    cases nx<;>simp only[Oper.upon,wpList,Exit.then] at h ⊢ <;>
     first
      | exact h
      | exact Calls.mono h (fun e w'' he=>by cases e<;>exact he)
   | halt x w'=>cases x<;>simp only[Oper.upon,Exit.then] at h ⊢ <;> exact h
 rename_i hw;rw[if_neg hw] at h;exact h
theorem Pf {l:List Oper} {n i:Nat} {past:Bool} {r:List (Nat×Nat)} {a:Act} {w:World} {o:Oper} (ho:l[i]?=some o) (hw:Region.wanted o (yielded l.toArray a.tmps)=true) (ty:TypeId) (x:Operand) (hop:o.op=.load ty x) (g off m:Nat) (hx:a.eval x=.pointer (some ⟨g,off,none⟩))
 {t:TypeId} {cur:Array Value} {fr:Nat×Nat} {d:TypeDesc} (hg:∀w0,S w0→w0.heap[g]?=some (.cells cur t fr)) (hu:P.underlying ty=some d) (hd:d.isRow=true) (hi:(P.info? ty).map (·.size)=some m) (hfit:off+m≤cur.size) (cs:Array Value) (hv:cur.extract off (off+m)=cs)
 (h:Ce P l Q k S n r past (a.put o.dst (.agg cs)) w):Ce P l Q k S n ((i,1)::r) past a w :=
 planK_see ho hw (fun w0 hS=>by
  unfold execOp;simp only[hop,hx,Instr.loadAt,Instr.sureAddr,Sem.run_bind,Sem.run_pure,Result.andThen_ok,Bb w0 (hg w0 hS) hu hd hi hfit,hv]) h
theorem Rx {l:List Oper} {n:Nat} {past:Bool} {a:Act} {w:World} (h:wpList P l.toArray Q (l.drop n) a w):Ce P l Q k S n [] past a w:=h
end
end Go.Proofs.YtooijgcildbnlaaGreat
namespace Go.Proofs.YtooijgcildbnlaaGreat.CI
open Go.RowKit Go.Proofs.YtooijgcildbnlaaGreat.ShaW Go.Proofs.YtooijgcildbnlaaGreat.Path Go.Proofs.YtooijgcildbnlaaGreat.Store
def pick (x:Int) (n:Nat):Int:=if Int.tmod x n<0 then Int.tmod x n+n else Int.tmod x n
def Y3 (out:List Pr) (key:List UInt8) (j:Nat) (x:Int):Prop:=(x = -1∧∀i q,i<j→out[i]?=some q→q.key≠key)∨∃(i:Nat) (q:Pr),i<j∧x=(i:Int)∧out[i]?=some q∧q.key=key
theorem Cx {cur:Array Value} {o:Nat} {x:Pr} (hk:x.key.length=32) (h:cur.extract o (o+33)=x.cells):cur.extract o (o+32)=AJ x.key∧cur[o+32]?=some x.vv:=by
 have hs:=Pr.size hk;have h':cur.extract o (o+x.cells.size)=x.cells:=by rw[hs];exact h
 exact⟨MN h' (by rw[hs];omega) (Pr.Bh hk),JT h' (Pr.I3 hk)⟩
theorem Mh:(Tryz.prog.info? 141).map (·.size)=some 33:=by kernel_rfl
theorem I8:∃i z,Tryz.prog.info? 141=some i∧i.zero=some z∧i.size=33∧i.bytes=56∧z.cells.size=33:=by
 obtain⟨i,h1,h2,h3,h4⟩:=info_parts (P:=Tryz.prog) (e:=141) (z:=.agg (List.replicate 32 (Value.int .u8 0) ++ [Value.slice none 0 0]).toArray) (size:=33) (bytes:=56) (by kernel_rfl);exact⟨i,_,h1,h2,h3,h4,rfl⟩
def Az (w:World) (ao:Option Addr) (len:Nat):Prop:=∀i,i<len→∃(g off:Nat) (x:Int),ao=some ⟨g,off,none⟩∧w.cell? ⟨g,off+i,none⟩=some (.int .i64 x)∧(Lit.int .i64 x).wf=true∧g<w.heap.size
theorem Of (l:List Pr):Dz (l.map Pr.ent)=l.map (·.key):=by simp[Dz,Pr.ent,Function.comp_def]
end Go.Proofs.YtooijgcildbnlaaGreat.CI
namespace Go.Proofs.YtooijgcildbnlaaGreat.Store
open Go.RowKit Go.Sort Go.Proofs.YtooijgcildbnlaaGreat.ShaW Go.Proofs.YtooijgcildbnlaaGreat.Path
theorem Nn (a b:List UInt8) (ha:a.length=32) (hb:b.length=32) (w:World) :
 Calls Tryz.prog 159 #[.agg (AJ a),.agg (AJ b)] w fun e w'=>e=.returned (.int .i64 (Lib.compareBytes a b))∧Adds w w' :=
 (Path.KD a b ha hb w).mono fun e w' ⟨he,q,os,hw⟩=>⟨he,by
  subst hw;refine⟨rfl,rfl,rfl,by simp[grow],fun k hk _=>?_⟩
  show(w.heap++os)[k]?=_
  rw[Array.getElem?_append_left hk]⟩
theorem DA {w:World} {s:Nat} {F:Nat→Prop} {σ:AD Nd} (h:At w s F σ) (G:Good σ) {n:Int} {d:Nat} {t:Tr} (hr:Rep (sk σ) n d t):(nd σ n).size=(t.leaves:Int)∧t.leaves≤65536:=by
 have h1:=hr.size G.fit;rw[D9] at h1;have h2:=Gu G hr;rw[Tr.Ca] at h2;have:=h.len;have:=h.room;refine⟨?_,by omega⟩
 show(stat (nd σ n)).size=_
 rw[h1];unfold wrap64;omega
end Go.Proofs.YtooijgcildbnlaaGreat.Store
