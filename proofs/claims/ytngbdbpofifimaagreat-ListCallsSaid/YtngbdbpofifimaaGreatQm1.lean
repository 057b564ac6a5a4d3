/- Laws of the layers below. -/
import Derived.WalkKit
import Derived.Lib.Hide
import Derived.Deep.MidRow
import Derived.Great.BuildSlice
import Derived.OneCell
import Derived.ArgAppend
import Derived.Deep.QuietTactic
import Derived.StillTail
import Derived.Deep.RegionHeld3
import Derived.Laws.BitsAllLaws
import Derived.Laws.CopyOwn
import Derived.Deep.Upon
set_option maxHeartbeats 3200000
set_option maxRecDepth 100000
set_option linter.unusedVariables false
namespace Go.Proofs.YtngbdbpofifimaaGreat
open Go.RowKit
theorem nAq {α : Type _} (l : List α) (i : Nat) (a : α) : l.toArray.setIfInBounds i a=(l.set i a).toArray:=List.setIfInBounds_toArray ..
theorem nBq {α : Type _} {x y : α} {xs : List α} {i : Nat} : (x::xs).set (i+1) y=x::xs.set i y:=rfl
theorem nCq {α : Type _} {x y : α} {xs : List α} : (x::xs).set 0 y=y::xs:=rfl
theorem hIq {a b : Prop} (x : a) (y : b) : RowKit.Hid (a∧b):=Lib.hid ⟨x, y⟩
theorem aIq {a b : Prop} (x : a) (y : b) : a∧b:=⟨x, y⟩
theorem fEq {a : Prop} (h : False) : a:=h.elim
abbrev zOq (op : Op) {P : Program} {ops : Array Oper} {Q : Exit→Act→World→Prop} {rest : List Oper} {a : Act} {w : World} {d : Option Tmp} {t : TypeId} {p : String} {e : Array Edge} {g : Option (Nat×Bool)} : Prop:=wpList P ops Q (⟨d, op, t, p, e, g⟩::rest) a w
structure Ch (F:Nat→Prop) (w w':World):Prop where
 os:w'.os=w.os
 tape:w'.tape=w.tape
 output:w'.output=w.output
 size:w.heap.size≤w'.heap.size
 block:∀k,k<w.heap.size→¬F k→w'.heap[k]?=w.heap[k]?
namespace Ch
theorem refl (F:Nat→Prop) (w:World):Ch F w w:=⟨rfl,rfl,rfl,Nat.le_refl _,fun _ _ _=>rfl⟩
theorem mono {F G:Nat→Prop} {w w':World} (h:Ch F w w') (hs:∀k,k<w.heap.size→F k→G k):Ch G w w' :=
 ⟨h.os,h.tape,h.output,h.size,fun k hk hn=>h.block k hk (fun hf=>hn (hs k hk hf))⟩
theorem trans {F G:Nat→Prop} {a b c:World} (h:Ch F a b) (k:Ch G b c) (hs:∀i,G i→F i∨a.heap.size≤i):Ch F a c :=
 ⟨k.os.trans h.os,k.tape.trans h.tape,k.output.trans h.output,Nat.le_trans h.size k.size,fun i hi hn =>
  (k.block i (Nat.lt_of_lt_of_le hi h.size) (fun hg=>(hs i hg).elim hn (fun h'=>by omega))).trans (h.block i hi hn)⟩
theorem Bj {F:Nat→Prop} {a b c:World} (h:Ch F a b) (k:Ch F b c):Ch F a c:=h.trans k (fun _ hi=>.inl hi)
theorem alloc {F:Nat→Prop} {a w:World} (h:Ch F a w) (o:Obj):Ch F a (w.alloc o) :=
 h.trans (G:=fun _=>False) ⟨rfl,rfl,rfl,by simp,fun k hk _=>heap_alloc_old w o hk⟩ (fun _ hf=>hf.elim)
theorem drew {F:Nat→Prop} {a w:World} (h:Ch F a w):Ch F a w.drew :=
 h.trans (G:=fun _=>False) ⟨rfl,rfl,rfl,by simp,fun _ _ _=>rfl⟩ (fun _ hf=>hf.elim)
theorem setCell {F:Nat→Prop} {a w:World} (h:Ch F a w) {p:Addr} (hp:F p.block∨a.heap.size≤p.block) (u:Value):Ch F a (w.setCell p u) :=
 h.trans (G:=fun k=>k=p.block) ⟨rfl,rfl,rfl,by simp,fun k _ hk=>heap_setCell_other w p k u hk⟩ (fun _ hf=>hf▸hp)
theorem grown {F:Nat→Prop} {a w w':World} {row:Option Nat} (h:Ch F a w) (hg:w.grownBy w' row) (hr:∀k,row=some k→F k∨a.heap.size≤k):Ch F a w' :=
 h.trans (G:=fun k=>row=some k) ⟨hg.os,hg.tape,hg.output,hg.size,fun k hk hne=>hg.block k hk (fun e=>hne e.symm)⟩ (fun k hf=>hr k hf)
theorem setRow {F:Nat→Prop} {a w:World} (h:Ch F a w) {g:Nat} (hp:F g∨a.heap.size≤g) (cs:Array Value):Ch F a (w.setRow g cs) :=
 h.trans (G:=fun k=>k=g) ⟨rfl,rfl,rfl,by simp,fun k _ hk=>setRow_other w g k cs hk⟩ (fun _ hf=>hf▸hp)
theorem below {F:Nat→Prop} {w w':World} {B:Nat} (h:Ch F w w') (hB:B≤w.heap.size) (hF:∀k,F k→B≤k):Below B w w' :=
 ⟨h.os,h.tape,h.output,h.size,fun k hk=>h.block k (by omega) (fun hf=>by have:=hF k hf;omega)⟩
theorem TY {w w':World} {B:Nat} (h:Below B w w'):Ch (fun k=>B≤k) w w' :=
 ⟨h.os,h.tape,h.output,h.size,fun k _ hn=>h.block k (by omega)⟩
theorem row {F:Nat→Prop} {w w':World} (h:Ch F w w') {g:Nat} {o:Obj} (hg:w.heap[g]?=some o) (hn:¬F g):w'.heap[g]?=some o :=
 (h.block g (Array.getElem?_eq_some_iff.1 hg).1 hn).trans hg
theorem owns {F:Nat→Prop} {w w':World} (h:Ch F w w') {base n sz:Nat} {e:TypeId} {v:Value} {xs:List Value}
 (ho:w.ownsRow base e sz v n xs) (hn:∀k,v.ownBlock=some k→¬F k):w'.ownsRow base e sz v n xs:=by
 refine⟨ho.1,?_⟩;rcases ho.2 with hh|⟨g,cap,cur,rfl,hb,hgg,rest⟩
 · exact .inl hh
 exact .inr ⟨g,cap,cur,rfl,hb,h.row hgg (hn g (by simp[Value.ownBlock])),rest⟩
end Ch
def splice (cur:List Value) (off:Nat) (v:List Value):List Value:=cur.take off++v++cur.drop (off+v.length)
theorem Ce (cur:List Value) (off:Nat) (v:List Value) (h:off+v.length≤cur.length):(splice cur off v).length=cur.length:=by
 simp[splice];omega
theorem IA:∀(v:List Value) (cells:Array Value) (off k:Nat),off+k+v.length≤cells.size →
 ((v.zipIdx k).foldl (fun(cs:Array Value) (c,j)=>cs.setIfInBounds (off+j) c) cells).toList=splice cells.toList (off+k) v
 | [],cells,off,k,h=>by simp[splice]
 | x::v,cells,off,k,h=>by
  simp only[List.length_cons] at h;simp only[List.zipIdx_cons,List.foldl_cons];rw[IA v _ off (k+1) (by simp;omega)];simp only[splice,Array.toList_setIfInBounds,List.length_cons];have hk:off+k<cells.toList.length:=by simp;omega
  rw[show off+(k+1)=off+k+1 by omega];rw[show off+k+(v.length+1)=off+k+1+v.length by omega];rw[List.take_set,List.take_succ_eq_append_getElem (by simpa using hk)];rw[List.drop_set];have hl:(List.take (off+k) cells.toList).length=off+k:=by rw[List.length_take];omega
  have e:∀(l:List Value) (y:Value),l.length=off+k→(l ++ [y]).set (off+k) x=l ++ [x]:=fun l y e=>by rw[←e];simp
  rw[if_pos (by omega),e _ _ hl];simp
theorem BH {place:Nat→Option (Nat×Nat)} {cells:Array Value} {i off size:Nat} {v:Value} {rest:List (Nat×Value)} (hp:place i=some (off,size)) (hv:v.cells.size=size) (hfit:off+size≤cells.size) :
 Instr.fill place cells ((i,v)::rest)=Instr.fill place (splice cells.toList off v.cells.toList).toArray rest:=by
 have h:=IA v.cells.toList cells off 0 (by simp;omega);have hh:¬(v.cells.size≠size∨off+v.cells.size > cells.size):=by omega
 simp only[Instr.fill,hp];rw[if_neg (by simpa using hh)]
 congr 1
 apply Array.ext';rw[Nat.add_zero] at h;rw[←Array.foldl_toList];simpa using h
theorem B4 {w:World} {g n cap sz:Nat} {e:TypeId} {cur:Array Value} {xs:List Value} (hg:w.heap[g]?=some (.cells cur e (0,0))) (h1:n≤cap) (h2:cap≤maxLen) (h3:cur.size=cap*sz) (h4:cur.toList.take (n*sz)=xs) :
 w.ownsRow 0 e sz (.slice (some ⟨g,0,none⟩) n cap) n xs:=by
 refine⟨?_,.inr ⟨g,cap,cur,rfl,Nat.zero_le _,hg,h1,h2,h3,h4⟩⟩;rw[←h4,List.length_take];have:n*sz≤cap*sz:=Nat.mul_le_mul_right _ h1;simp only[Array.length_toList];omega
section
variable {P : Program}
theorem BU (w:World) {g off n:Nat} {ty t:TypeId} {cur:Array Value} {fr:Nat×Nat} {d:TypeDesc} (hg:w.heap[g]?=some (.cells cur t fr)) (hu:P.underlying ty=some d)
 (hd:d.isRow=true) (hi:(P.info? ty).map (·.size)=some n) (hfit:off+n≤cur.size) :
 (loadVar ty ⟨g,off,none⟩).run P w=.ok (.agg (cur.extract off (off+n))) w:=by
 have:=run_loadVar_mid (P:=P) w g off ty (cur.extract off (off+n)).toList d (World.rangeAt_of_block hg off n) hu hd (by rw[hi];simp;omega);rw[this]
theorem AJ {w:World} {ops:Array Oper} {rest:List Oper} {o:Oper} {a:Act} {Q:Exit→Act→World→Prop} (hgd:o.guard=none) (ty:TypeId) (x:Operand) (ho:o.op=.load ty x)
 (g off:Nat) (hx:a.eval x=.pointer (some ⟨g,off,none⟩)) {t:TypeId} {cur:Array Value} {fr:Nat×Nat} {n:Nat} {d:TypeDesc} (hg:w.heap[g]?=some (.cells cur t fr)) (hu:P.underlying ty=some d)
 (hd:d.isRow=true) (hi:(P.info? ty).map (·.size)=some n) (hfit:off+n≤cur.size) (cs:Array Value) (hv:cur.extract off (off+n)=cs)
 (h:wpList P ops Q rest (a.put o.dst (.agg cs)) w):wpList P ops Q (o::rest) a w :=
 wpList_plain hgd fun _ hK=>by
  unfold Oper.wp execOp;simp only[ho,hx,Instr.loadAt,Instr.sureAddr,Sem.run_bind,Sem.run_pure,Result.andThen_ok,BU w hg hu hd hi hfit,hv];exact hK _ _ h
theorem GD (w:World) {g off:Nat} {ty t:TypeId} {cur cells:Array Value} (hg:w.heap[g]?=some (.cells cur t (0,0))) (hi:(P.info? ty).map (·.size)=some cells.size) (hfit:off+cells.size≤cur.size)
 (h1:∀v∈cells.toList,v.oneCell'=true):(storeVar ty ⟨g,off,none⟩ (.agg cells)).run P w=.ok () (w.setRow g (splice cur.toList off cells.toList).toArray):=by
 have:=run_storeCells_at (P:=P) g off t cells.toList 0 cur w hg (by simp;omega) h1;cases hq:P.info? ty with
 | none=>simp[hq] at hi
 | some i =>
  have hs:cells.size=i.size:=by simp[hq] at hi;omega
  simp[storeVar,sizeOf,typeInfo,hq,Value.cells,hs,this,splice]
theorem AI {w:World} {ops:Array Oper} {rest:List Oper} {o:Oper} {a:Act} {Q:Exit→Act→World→Prop} (hgd:o.guard=none) (ty:TypeId) (x y:Operand) (ho:o.op=.store ty x y)
 (g off:Nat) (cells:Array Value) (hx:a.eval x=.pointer (some ⟨g,off,none⟩)) (hy:a.eval y=.agg cells) {t:TypeId} {cur:Array Value} (hg:w.heap[g]?=some (.cells cur t (0,0)))
 (hi:(P.info? ty).map (·.size)=some cells.size) (hfit:off+cells.size≤cur.size) (h1:∀v∈cells.toList,v.oneCell'=true)
 (new:Array Value) (hn:(splice cur.toList off cells.toList).toArray=new) (h:wpList P ops Q rest (a.put o.dst undef) (w.setRow g new)):wpList P ops Q (o::rest) a w :=
 wpList_plain hgd fun _ hK=>by
  unfold Oper.wp execOp;simp only[ho,hx,hy,Instr.storeAt,Instr.sureAddr,Sem.run_bind,Sem.run_pure,Result.andThen_ok,GD w hg hi hfit h1,hn];exact hK _ _ h
end
theorem AH {w:World} {g:Nat} {cs:Array Value} {t:TypeId} {fr:Nat×Nat} (hg:w.heap[g]?=some (.cells cs t fr)) {i:Nat} {v:Value} (h:cs[i]?=some v):w.cell? ⟨g,i,none⟩=some v:=by
 rw[cell_of_row w g i cs t fr hg,h]
theorem GI {w:World} {g:Nat} {cs:Array Value} {t:TypeId} {fr:Nat×Nat} (hg:w.heap[g]?=some (.cells cs t fr)):∀j u,cs.toList[j]?=some u→w.cell? ((⟨g,0,none⟩:Addr).add j)=some u:=fun j u hu=>by
 have hadd:(⟨g,0,none⟩:Addr).add j=⟨g,j,none⟩:=by unfold Addr.add;split<;>simp_all
 rw[hadd,cell_of_row w g j cs t fr hg];simpa using hu
theorem Ad {w:World} {g:Nat} {o:Obj} (hg:w.heap[g]?=some o):g<w.heap.size:=(Array.getElem?_eq_some_iff.1 hg).1
theorem Ai {w:World} {g:Nat} {cs:Array Value} {t:TypeId} (hg:w.heap[g]?=some (.cells cs t (0,0))) (i:Nat):w.frozen? ⟨g,i,none⟩=false:=frozen_of_row w g i cs t hg
theorem AQ {w:World} {g:Nat} {o:Obj} (hg:w.heap[g]?=some o) (x:Obj):(w.alloc x).heap[g]?=some o:=(heap_alloc_old w x (Ad hg)).trans hg
theorem AM {w:World} {g:Nat} {o:Obj} (hg:w.heap[g]?=some o):w.drew.heap[g]?=some o:=hg
theorem Bp {w:World} {g:Nat} {o:Obj} (hg:w.heap[g]?=some o) (n:Nat):(w.drewN n).heap[g]?=some o:=hg
theorem Ak {w:World} {g:Nat} {o:Obj} (hg:w.heap[g]?=some o) {p:Addr} (h:g≠p.block) (v:Value):(w.setCell p v).heap[g]?=some o:=(heap_setCell_other w p g v h).trans hg
theorem row_setRow {w:World} {g:Nat} {o:Obj} (hg:w.heap[g]?=some o) {k:Nat} (h:g≠k) (cs:Array Value):(w.setRow k cs).heap[g]?=some o:=(setRow_other w k g cs h).trans hg
theorem AV {w:World} {g:Nat} {cs:Array Value} {t:TypeId} (hg:w.heap[g]?=some (.cells cs t (0,0))) (i:Nat) (v:Value):(w.setCell ⟨g,i,none⟩ v).heap[g]?=some (.cells (cs.setIfInBounds i v) t (0,0)):=heap_setCell_same w g i cs t v hg
theorem AK {w:World} {g:Nat} {cs:Array Value} {t:TypeId} {fr:Nat×Nat} (hg:w.heap[g]?=some (.cells cs t fr)) (c:Array Value):(w.setRow g c).heap[g]?=some (.cells c t fr):=setRow_heap w g cs c t fr hg
theorem Ch.drewN {F:Nat→Prop} {a w:World} (h:Ch F a w) (n:Nat):Ch F a (w.drewN n) :=
 h.trans (G:=fun _=>False) ⟨rfl,rfl,rfl,Nat.le_refl _,fun _ _ _=>rfl⟩ (fun _ hf=>hf.elim)
def putAt (i:Nat) (v:Value):Obj→Obj
 | .cells c t fr=>.cells (c.setIfInBounds i v) t fr
 | o=>o
def putRow (cs:Array Value):Obj→Obj
 | .cells _ t fr=>.cells cs t fr
 | o=>o
@[go_sem] theorem VO (i:Nat) (v:Value) (c:Array Value) (t:TypeId) (fr:Nat×Nat):putAt i v (.cells c t fr)=.cells (c.setIfInBounds i v) t fr:=rfl
@[go_sem] theorem UW (cs c:Array Value) (t:TypeId) (fr:Nat×Nat):putRow cs (.cells c t fr)=.cells cs t fr:=rfl
@[go_sem] theorem Ds (w:World) (o:Obj) (k:Nat) (h:k<w.heap.size):(w.alloc o).heap[k]?=w.heap[k]?:=heap_alloc_old w o h
@[go_sem] theorem BG (w:World) (o:Obj) (k:Nat) (h:k=w.heap.size):(w.alloc o).heap[k]?=some o:=by subst h;exact heap_alloc_new w o
@[go_sem] theorem RW (w:World) (p:Addr) (v:Value) (k:Nat) (h:k≠p.block):(w.setCell p v).heap[k]?=w.heap[k]?:=heap_setCell_other w p k v h
@[go_sem] theorem RX (w:World) (k i:Nat) (v:Value):(w.setCell ⟨k,i,none⟩ v).heap[k]?=(w.heap[k]?).map (putAt i v):=by
 simp only[World.setCell,Array.getElem?_modify,if_true];cases w.heap[k]? with
 | none=>rfl
 | some o=>cases o<;>rfl
@[go_sem] theorem CI (w:World) (g:Nat) (cs:Array Value) (k:Nat) (h:k≠g):(w.setRow g cs).heap[k]?=w.heap[k]?:=setRow_other w g k cs h
@[go_sem] theorem Co (w:World) (g:Nat) (cs:Array Value):(w.setRow g cs).heap[g]?=(w.heap[g]?).map (putRow cs):=by
 simp only[World.setRow,Array.getElem?_modify,if_true];cases w.heap[g]? with
 | none=>rfl
 | some o=>cases o<;>rfl
@[go_sem] theorem heap_drewN (w:World) (n:Nat):(w.drewN n).heap=w.heap:=rfl
@[go_sem] theorem Vr (w:World):w.drew.heap=w.heap:=rfl
@[go_sem] theorem Sd (w:World) (g:Nat) (cs:Array Value) (k i:Nat) (h:k≠g):(w.setRow g cs).cell? ⟨k,i,none⟩=w.cell? ⟨k,i,none⟩:=cell_setRow_other w g cs _ h
@[go_sem] theorem Ty (w:World) (g:Nat) (cs:Array Value) (a:Addr):(w.setRow g cs).frozen? a=w.frozen? a:=by
 unfold World.frozen?;by_cases h:a.block=g
 · subst h
   rw[Co];cases w.heap[a.block]? with
   | none=>rfl
   | some o=>cases o<;>rfl
 rw[CI _ _ _ _ h]
@[go_sem] theorem TV (w:World) (g:Nat) (cs:Array Value) (i:Nat) (h:(w.heap[g]?).map (putRow cs)=some (.cells cs 0 (0,0))∨(w.cell? ⟨g,0,none⟩).isSome=true):(w.setRow g cs).cell? ⟨g,i,none⟩=cs[i]?:=by
 have hs:∃c t fr,w.heap[g]?=some (.cells c t fr):=by
  rcases h with h|h
  · cases hg:w.heap[g]? with
    | none=>rw[hg] at h;cases h
    | some o=>cases o<;>first|exact⟨_,_,_,rfl⟩|(rw[hg] at h;simp[putRow] at h)
  cases hg:w.heap[g]? with
  | none=>simp[World.cell?,hg] at h
  | some o=>cases o<;>first|exact⟨_,_,_,rfl⟩|simp[World.cell?,hg] at h
 obtain⟨c,t,fr,hg⟩:=hs;exact cell_setRow_same w g i c cs t fr hg
theorem Fw {w:World} {g:Nat} {c0 c1 c2 c3:Value} {t:TypeId} (hg:w.heap[g]?=some (.cells #[c0,c1,c2,c3] t (0,0))) :
 w.cell? ⟨g,0,none⟩=some c0∧w.cell? ⟨g,1,none⟩=some c1∧w.cell? ⟨g,2,none⟩=some c2∧w.cell? ⟨g,3,none⟩=some c3∧(∀i,w.frozen? ⟨g,i,none⟩=false)∧g<w.heap.size :=
 ⟨AH hg rfl,AH hg rfl,AH hg rfl,AH hg rfl,fun i=>Ai hg i,Ad hg⟩
section
variable {P : Program}
theorem wpList_build_is {w:World} {ops:Array Oper} {rest:List Oper} {o:Oper} {a:Act} {Q:Exit→Act→World→Prop} (hgd:o.guard=none) (t:TypeId) (parts:Array (Nat×Operand)) (ho:o.op=.build t parts)
 (cells:Array Value) (hf:P.built t (parts.map fun(i,x)=>(i,a.eval x)).toList=some cells) (h:wpList P ops Q rest (a.put o.dst (.agg cells)) w):wpList P ops Q (o::rest) a w :=
 wpList_build hgd t parts ho (by rw[hf];rfl) (by rw[hf];exact h)
theorem Ax {w:World} {ops:Array Oper} {rest:List Oper} {o:Oper} {a:Act} {Q:Exit→Act→World→Prop} (hgd:o.guard=none) (t:TypeId) (ho:o.op=.build t #[])
 (cells:Array Value) (hf:P.built t []=some cells) (h:wpList P ops Q rest (a.put o.dst (.agg cells)) w):wpList P ops Q (o::rest) a w :=
 wpList_build_is hgd t #[] ho cells (by simpa using hf) h
theorem J4 {t:TypeId} {it:TypeInfo} {z:Value} {fields:Array Field} {s0 s1:Nat} (hi:P.info? t=some it) (hz:it.zero=some z) (hu:P.underlying t=some (.struct fields))
 (hp:fields.toList.mapM (fun f=>(P.info? f.type).map fun i=>(f.offset,i.size))=some [(0,s0),(s0,s1)]) (hs:z.cells.size=s0+s1) (v0 v1:Value) (h0:v0.cells.size=s0) (h1:v1.cells.size=s1) :
 P.built t [(0,v0),(1,v1)]=some (v0.cells++v1.cells):=by
 unfold Program.built;rw[hi,hu];simp only[hz,hp];rw[BH (off:=0) (size:=s0) rfl h0 (by omega),BH (off:=s0) (size:=s1) rfl h1 (by rw[List.size_toArray,Ce _ _ _ (by simp;omega)];simp;omega)];simp only[Instr.fill,Option.some.injEq];apply Array.ext';simp only[splice,List.take_zero,List.nil_append,Nat.zero_add,Array.length_toList,Array.toList_append];rw[List.take_append,List.take_of_length_le (by simp;omega),h0];simp only[Array.length_toList,h0,Nat.sub_self,List.take_zero,List.append_nil];rw[List.drop_append,List.drop_eq_nil_of_le (by simp;omega),List.drop_eq_nil_of_le (by simp;omega)];simp
theorem Dq {w:World} {ops:Array Oper} {rest:List Oper} {o:Oper} {a:Act} {Q:Exit→Act→World→Prop} (hgd:o.guard=none) (t i j:Nat) (x y:Operand) (ho:o.op=.build t #[(i,x),(j,y)])
 (vx vy:Value) (hx:a.eval x=vx) (hy:a.eval y=vy) (cells:Array Value) (hf:P.built t [(i,vx),(j,vy)]=some cells) (h:wpList P ops Q rest (a.put o.dst (.agg cells)) w):wpList P ops Q (o::rest) a w :=
 wpList_build_is hgd t #[(i,x),(j,y)] ho cells (by simpa[hx,hy] using hf) h
theorem Hk (w:World) (t e:TypeId) (ie:TypeInfo) (z v:Value) (hu:P.underlying t=some (.slice e)) (hie:P.info? e=some ie) (hz:ie.zero=some z) (hsmall:ie.size≤65536) (hpos:0<ie.size) (hv:v.cells.size=ie.size) :
 (Instr.buildSlice t 1 #[(0,v)]).run P w=.ok (.slice (some ⟨w.heap.size,0,none⟩) 1 1) (w.alloc (.cells v.cells e)):=by
 refine run_buildSlice w t e 1 #[(0,v)] v.cells ie z hu hie hz (by omega) (by omega) ?_
 show Instr.fill _ _ [(0,v)]=_
 rw[BH (off:=0) (size:=ie.size) (by simp) hv (by simp)];simp only[Instr.fill,splice,Option.some.injEq];apply Array.ext';simp[hv]
theorem Bo {w:World} {ops:Array Oper} {rest:List Oper} {o:Oper} {a:Act} {Q:Exit→Act→World→Prop} (hgd:o.guard=none) (t:TypeId) (x:Operand) (ho:o.op=.buildSlice t 1 #[(0,x)])
 (e:TypeId) (ie:TypeInfo) (z v:Value) (hx:a.eval x=v) (hu:P.underlying t=some (.slice e)) (hie:P.info? e=some ie) (hz:ie.zero=some z) (hsmall:ie.size≤65536) (hpos:0<ie.size) (hv:v.cells.size=ie.size)
 (h:wpList P ops Q rest (a.put o.dst (.slice (some ⟨w.heap.size,0,none⟩) 1 1)) (w.alloc (.cells v.cells e))):wpList P ops Q (o::rest) a w :=
 wpList_plain hgd fun _ hK=>by
  unfold Oper.wp execOp;have:=Hk w t e ie z v hu hie hz hsmall hpos hv;simp only[ho,List.map_toArray,List.map_cons,List.map_nil,hx,Sem.run_bind,this,Result.andThen_ok];exact hK _ _ h
theorem AT (l v:List Value) (h:l.length=v.length):(splice l 0 v).toArray=v.toArray:=by
 simp[splice, ←h]
theorem Al {fn:Func} {R:Ending→World→Prop} {a:Act} {w:World} {p u:Tmp} {ty t:TypeId} {g:Nat} {cs:Array Value} {fr:Nat×Nat} {d:TypeDesc} (h:fn.results=#[.cell p ty,.tmp u]) (hp:a.tmps.getD p undef=.pointer (some ⟨g,0,none⟩))
 (hg:w.heap[g]?=some (.cells cs t fr)) (hu:P.underlying ty=some d) (hd:d.isRow=true) (hi:(P.info? ty).map (·.size)=some cs.size) (hdef:a.defers = []) (hR:R (.returned (.tuple #[.agg cs,a.tmps.getD u undef])) w):bodyPost P fn R .ret a w:=by
 refine bodyPost_ret (v:=.tuple #[.agg cs,a.tmps.getD u undef]) ?_ hdef hR;rw[results_cell_tmp h,hp];have:=BU (P:=P) w (off:=0) hg hu hd hi (by simp);simp at this;simp[asAddr,this]
theorem Af {fn:Func} {R:Ending→World→Prop} {a:Act} {w:World} {p:Tmp} {ty t:TypeId} {g:Nat} {cs:Array Value} {fr:Nat×Nat} {d:TypeDesc} (h:fn.results=#[.cell p ty]) (hp:a.tmps.getD p undef=.pointer (some ⟨g,0,none⟩))
 (hg:w.heap[g]?=some (.cells cs t fr)) (hu:P.underlying ty=some d) (hd:d.isRow=true) (hi:(P.info? ty).map (·.size)=some cs.size) (hdef:a.defers = []) (hR:R (.returned (.agg cs)) w):bodyPost P fn R .ret a w:=by
 refine bodyPost_ret (v:=.agg cs) ?_ hdef hR;have:=BU (P:=P) w (off:=0) hg hu hd hi (by simp);simp at this;simp only[Array.getD_eq_getD_getElem?] at hp;simp[results,h,hp,asAddr,this]
theorem Fq (w:World) (t ty e:TypeId) (i:TypeInfo) (z:Value) (size bytes:Nat) (ht:P.underlying t=some (.slice e)) (hi:P.info? e=some i) (hz:i.zero=some z) (hsize:i.size=size) (hby:i.bytes=bytes) (hzs:z.cells.size=size) (hsz:0<size)
 (v:Value) (n:Nat) (xs:List Value) (hown:w.ownsRow 0 e size v n xs) (ad:Addr) (m c:Nat) (news:List Value) (hl:news.length=m*size) (hnews:∀j u,news[j]?=some u→w.cell? (ad.add j)=some u) (h1:∀u∈news,u.oneCell'=true)
 (h63:n+m≤maxLen) (hbytes:(n+m)*bytes≤140737488355328) :
 ∃v' w',(Builtin.append_ #[t,t] ty #[v,.slice (some ad) m c]).run P w=.ok v' w'∧w'.ownsRow 0 e size v' (n+m) (xs++news)∧w.grownBy w' v.ownBlock∧(v'.ownBlock=v.ownBlock∨∀k,v'.ownBlock=some k→w.heap.size≤k):=by
 have weaken:∀ {w':World} {v':Value} {k:Nat} {ys:List Value},w'.ownsRow w.heap.size e size v' k ys→w'.ownsRow 0 e size v' k ys∧∀b,v'.ownBlock=some b→w.heap.size≤b:=fun h=>by
  refine⟨⟨h.1,?_⟩,fun b hb=>(h.lt b hb).1⟩;rcases h.2 with h' | ⟨g,cap,cur,r1,_,r2⟩
  · exact .inl h'
  exact .inr ⟨g,cap,cur,r1,Nat.zero_le _,r2⟩
 rcases hown.2 with⟨rfl,rfl⟩|⟨g,cap,cur,rfl,_,hg,hn,hcap,hcur,htake⟩
 · obtain⟨v',w',hrun,r1,r2,_⟩:=run_append_own (P:=P) w w.heap.size t ty e i z size bytes ht hi hz hsize hby hzs hsz (.slice none 0 0) 0 xs (by rw[show xs = [] from List.eq_nil_of_length_eq_zero (by simpa using hown.1)];exact World.ownsRow_nil ..) ad m c news hl hnews h1 h63 hbytes (Nat.le_refl _)
   exact⟨v',w',hrun,(weaken r1).1,r2,.inr (weaken r1).2⟩
 by_cases hroom:n+m≤cap
 · have hfit:n*i.size+news.length≤cur.size:=by
    rw[hl,hcur,hsize, ←Nat.add_mul];exact Nat.mul_le_mul_right _ hroom
   have hrun:=run_append_room (P:=P) w t ty e i ht hi g n cap cur hg ad m c news (by rw[hsize];exact hl) hnews h1 hroom hfit;refine⟨_,_,hrun,B4 (setRow_heap w g cur _ e (0,0) hg) hroom hcap ?_ ?_,?_,.inl rfl⟩
   · have:(n*i.size)≤cur.size:=by omega
     simp only[List.size_toArray,List.length_append,List.length_take,List.length_drop,Array.length_toList, ←hcur];omega
   · subst hsize
     have hlt:(cur.toList.take (n*i.size)).length=n*i.size:=by rw[List.length_take,Array.length_toList];omega
     rw[htake,List.append_assoc,List.take_append,List.take_of_length_le (by rw[hown.1,Nat.add_mul];omega)]
     congr 1
     rw[hown.1,Nat.add_mul,show n*i.size+m*i.size-n*i.size=m*i.size by omega,List.take_append,List.take_of_length_le (by omega)];simp[hl]
   exact⟨rfl,rfl,rfl,by simp,fun k _ hk=>setRow_other w g k _ (by simpa[Value.ownBlock] using hk)⟩
 obtain⟨v',w',hrun,r1,r2⟩:=run_append_arg_grows (P:=P) w t ty e i z size bytes ht hi hz hsize hby hzs hsz ⟨g,0,none⟩ n cap xs hown.1 (fun j u hu=>hown.cells rfl j u hu) ad m c news hl hnews (by omega) h63 hbytes;exact⟨v',w',hrun,(weaken r1).1,⟨r2.os,r2.tape,r2.output,r2.size,fun k hk _=>r2.block k hk (by simp)⟩,.inr (weaken r1).2⟩
theorem BI {w:World} {ops:Array Oper} {rest:List Oper} {o:Oper} {a:Act} {Q:Exit→Act→World→Prop} (hgd:o.guard=none) (s x:Operand) (t:TypeId)
 (ho:o.op=.call { callee:=.builtin .append,args:=#[s,x],argTypes:=#[t,t] }) (e:TypeId) (i:TypeInfo) (z:Value) (size bytes:Nat) (ht:P.underlying t=some (.slice e)) (hi:P.info? e=some i) (hz:i.zero=some z)
 (hsize:i.size=size) (hby:i.bytes=bytes) (hzs:z.cells.size=size) (hsz:0<size) (v:Value) (n:Nat) (xs:List Value) (hs:a.eval s=v) (hown:w.ownsRow 0 e size v n xs)
 (ad:Addr) (m c:Nat) (news:List Value) (hx:a.eval x=.slice (some ad) m c) (hl:news.length=m*size) (hnews:∀j u,news[j]?=some u→w.cell? (ad.add j)=some u) (h1:∀u∈news,u.oneCell'=true)
 (h63:n+m≤maxLen) (hbytes:(n+m)*bytes≤140737488355328)
 (h:∀v' w',w'.ownsRow 0 e size v' (n+m) (xs++news)→w.grownBy w' v.ownBlock→(v'.ownBlock=v.ownBlock∨∀k,v'.ownBlock=some k→w.heap.size≤k)→wpList P ops Q rest (a.put o.dst v') w'):wpList P ops Q (o::rest) a w :=
 wpList_plain hgd fun _ hK=>by
  obtain⟨v',w',hrun,r1,r2,r3⟩:=Fq w t o.type e i z size bytes ht hi hz hsize hby hzs hsz v n xs hown ad m c news hl hnews h1 h63 hbytes;unfold Oper.wp;simp[execOp,ho,resolve,invoke,builtin,hs,hx,hrun,Result.andThen];exact hK _ _ (h v' w' r1 r2 r3)
theorem AO {w:World} {ops:Array Oper} {rest:List Oper} {o:Oper} {a:Act} {Q:Exit→Act→World→Prop} (hgd:o.guard=none) (ty:TypeId) (ho:o.op=.alloc ty)
 (z:Value) (hz:(P.info? ty).bind (·.zero)=some z) (h:wpList P ops Q rest (a.put o.dst (.pointer (some ⟨w.heap.size,0,none⟩))) (w.alloc (.cells z.cells ty))):wpList P ops Q (o::rest) a w :=
 wpList_plain hgd fun _ hK=>by
  cases hq:P.info? ty with
  | none=>simp[hq] at hz
  | some i =>
   have hz':i.zero=some z:=by simpa[hq] using hz
   unfold Oper.wp execOp;simp[ho,Instr.alloc,zeroValue,typeInfo,hq,hz',newVar,newRow];exact hK _ _ h
end
section
variable {P : Program} {ops : Array Oper} {Q : Exit→Act→World→Prop} {md : Region.Mode} {S : World→Prop}
def wpHead (P:Program) (md:Region.Mode) (ops:Array Oper) (Q:Exit→Act→World→Prop) (S:World→Prop) (n:Nat) (L:Array Bool→Act→World→Prop):Nat→Array Bool→Act→World→Prop
 | 0,listed,a,w=>L listed a w
 | f+1,listed,a,w =>
  Region.ready md ops listed ≠ []∧∀i∈Region.ready md ops listed,i<n∧wpOp P ops Q i (fun a' w'=>S w'∧wpHead P md ops Q S n L f (listed.setIfInBounds i true) a' w') a w
theorem ED {n g:Nat} {L:Array Bool→Act→World→Prop} (hL:∀listed a w,L listed a w→wpAny P md ops Q g listed a w) :
 ∀(f:Nat) (listed:Array Bool) (a:Act) (w:World),wpHead P md ops Q S n L f listed a w→wpAny P md ops Q (f+g) listed a w
 | 0,listed,a,w,h=>by rw[Nat.zero_add];exact hL _ _ _ h
 | f+1,listed,a,w,h=>by
  rw[show f+1+g=(f+g)+1 by omega];exact⟨fun h0=>absurd h0 h.1,fun i hi=>wpOp_mono (fun a' w' h'=>ED hL f _ a' w' h'.2) (h.2 i hi).2⟩
def Gq (md:Region.Mode) (ops:Array Oper) (n:Nat):Bool:=decide (n=ops.size)||(decide (n<ops.size)&&Region.sinkB md ops n&&Region.chainB md ops n)
theorem LA {n:Nat} {listed:Array Bool} (ht:Gq md ops n=true) (inv:HeadInv md ops n listed) {i:Nat} (hi:i<n) (hun:listed.getD i true=false) :
 ∀j∈Region.ready md ops listed,j<n:=by
 intro j hj;simp only[Gq,Bool.or_eq_true,Bool.and_eq_true,decide_eq_true_eq] at ht;rcases ht with h|⟨⟨h,hs⟩,hc⟩
 · obtain⟨_,oj,hoj,_⟩:=mem_ready.1 hj
   have:=(Array.getElem?_eq_some_iff.1 hoj).1;omega
 rcases Nat.lt_or_ge j n with h' | h'
 · exact h'
 exact absurd hj (tail_waits hs hc h inv _ i rfl hi hun j h')
theorem IK {n i:Nat} {oi:Oper} {v:Value} {L:Array Bool→Act→World→Prop} (hi:ops[i]?=some oi) (hsel:∀(j:Nat) (o:Oper) cs b,ops[j]?=some o→o.op≠.select cs b)
 (hQ:∀c a w,Q (.panic c) (a.put oi.dst v) w→Q (.panic c) a w) (ht:Gq md ops n=true) (hin:i<n)
 (hdone:∀listed a w,L listed a w→∀j∈Region.ready md ops listed,n≤j) :
 ∀(f:Nat) (listed:Array Bool) (a:Act) (w:World),HeadInv md ops n listed →
  (∀j oj,ops[j]?=some oj→j≠i→listed.getD j true=false→(∀e∈oj.after,Region.binds md e=true→e.on≠i)→oi.apart ops oj=true) →
  i∈Region.ready md ops listed→YieldsIf P ops S oi v a→S w →
  wpHead P md ops Q S n L f (listed.setIfInBounds i true) (a.put oi.dst v) w→wpHead P md ops Q S n L (f+1) listed a w:=by
 intro f
 induction f with
 | zero =>
  intro listed a w inv _ hr hy hS H;have hun:=(mem_ready.1 hr).1;refine⟨fun h=>(by rw[h] at hr;cases hr),fun j hj=>?_⟩;have hjn:=LA ht inv hin hun j hj;refine⟨hjn,?_⟩;by_cases hji:j=i
  · subst hji;exact hy.wpOp hi hS ⟨hS,H⟩
  have:=hdone _ _ _ H j (ready_mono hj hji);omega
 | succ f ih =>
  intro listed a w inv hfree hr hy hS H;have hun:=(mem_ready.1 hr).1;refine⟨fun h=>(by rw[h] at hr;cases hr),fun j hj=>?_⟩;have hjn:=LA ht inv hin hun j hj;refine⟨hjn,?_⟩;by_cases hji:j=i
  · subst hji;exact hy.wpOp hi hS ⟨hS,H⟩
  have h1:=(H.2 j (ready_mono hj hji)).2;obtain⟨hjun,oj,hoj,hall⟩:=mem_ready.1 hj
  have hnot:∀e∈oj.after,Region.binds md e=true→e.on≠i:=fun e he hb heq=>by
   have h1:=hall e he hb;rw[heq,getD_both hun] at h1;cases h1
  have h2:=wpOp_putIf hoj (hfree j oj hoj hji hjun hnot) (fun cs b=>hsel i oi cs b hi) (fun cs b=>hsel j oj cs b hoj) hQ hy h1
  have hfree':∀k ok,ops[k]?=some ok→k≠i→(listed.setIfInBounds j true).getD k true=false →
   (∀e∈ok.after,Region.binds md e=true→e.on≠i)→oi.apart ops ok=true:=fun k ok hk hki hun hno=>by
   refine hfree k ok hk hki ?_ hno;by_cases hjk:j=k
   · subst hjk;exact hjun
   rw[getD_set_ne true hjk] at hun;exact hun
  refine wpOp_mono (fun a' w' h3=>⟨h3.2.1,ih (listed.setIfInBounds j true) a' w' (inv.set hj hjn) hfree' (ready_mono hr (Ne.symm hji)) h3.1 h3.2.1 ?_⟩) h2;rw[Array.setIfInBounds_comm _ _ hji];exact h3.2.2
def BQ (P:Program) (l:List Oper) (Q:Exit→Act→World→Prop) (S:World→Prop) (n:Nat):List (Nat×Bool)→Act→World→Prop
 | [],a,w=>wpList P l.toArray Q (l.drop n) a w
 | (i,false)::r,a,w=>∃o v,l[i]?=some o∧YieldsIf P l.toArray S o v a∧BQ P l Q S n r (a.put o.dst v) w
 | (i,true)::r,a,w=>wpOp P l.toArray Q i (fun a' w'=>S w'∧BQ P l Q S n r a' w') a w
def Fm (md:Region.Mode) (ops:Array Oper) (n:Nat):List (Nat×Bool)→Array Bool→Bool
 | [],listed=>Region.seqB md ops (ops.size-n) n listed
 | (i,false)::r,listed=>decide (i<n)&&(Region.ready md ops listed).contains i&&Region.free md ops listed i&&Fm md ops n r (listed.setIfInBounds i true)
 | (i,true)::r,listed=>decide (i<n)&&decide (Region.ready md ops listed = [i])&&Fm md ops n r (listed.setIfInBounds i true)
def Lv (md:Region.Mode) (ops:Array Oper) (n:Nat) (p:List (Nat×Bool)):Bool :=
 Region.noSelect ops&&decide (p.length=n)&&decide (n≤ops.size)&&Gq md ops n&&Fm md ops n p (Array.replicate ops.size false)
theorem Cr {l:List Oper} {n:Nat} (hsel:Region.noSelect l.toArray=true) (ht:Gq md l.toArray n=true) (hQ:∀c a a' w,Q (.panic c) a' w→Q (.panic c) a w) :
 ∀(p:List (Nat×Bool)) (listed:Array Bool) (a:Act) (w:World),Fm md l.toArray n p listed=true→HeadInv md l.toArray n listed→S w→BQ P l Q S n p a w →
 wpHead P md l.toArray Q S n (fun listed a w=>Region.seqB md l.toArray (l.toArray.size-n) n listed=true∧wpList P l.toArray Q (l.drop n) a w) p.length listed a w
 | [],listed,a,w,hB,_,_,h=>⟨hB,h⟩
 | (i,false)::r,listed,a,w,hB,inv,hS,h=>by
  simp only[Fm,Bool.and_eq_true,decide_eq_true_eq] at hB;obtain⟨⟨⟨hin,hr⟩,hf⟩,hB'⟩:=hB;obtain⟨o,v,ho,hy,h'⟩:=h;have hr':i∈Region.ready md l.toArray listed:=by simpa using hr
  have ho':l.toArray[i]?=some o:=by simpa using ho
  exact IK ho' (Region.noSelect_spec hsel) (fun c a w=>hQ c _ _ w) ht hin (fun listed a w hL=>seqB_ready hL.1) r.length listed a w inv (Region.free_spec ho' hf) hr' hy hS
   (Cr hsel ht hQ r _ _ w hB' (inv.set hr' hin) hS h')
 | (i,true)::r,listed,a,w,hB,inv,hS,h=>by
  simp only[Fm,Bool.and_eq_true,decide_eq_true_eq] at hB;obtain⟨⟨hin,hr⟩,hB'⟩:=hB;refine⟨by rw[hr];simp,fun j hj=>?_⟩;have hji:j=i:=by rw[hr] at hj;simpa using hj
  subst hji;exact⟨hin,wpOp_mono (fun a' w' h'=>⟨h'.1,Cr hsel ht hQ r _ a' w' hB' (inv.set hj hin) h'.1 h'.2⟩) h⟩
theorem JT {id:Nat} {a:Act} {w:World} {l:List Oper} (S:World→Prop) (n:Nat) (p:List (Nat×Bool)) (hm:P.follows .mixedOrders=true)
 (hB:Lv .any l.toArray n p=true) (hQ:∀c a a' w,Q (.panic c) a' w→Q (.panic c) a w) (hS:S w.drew) (h:BQ P l Q S n p a w.drew):(Code.region id l.toArray true).wp P Q a w:=by
 simp only[Lv,Bool.and_eq_true,decide_eq_true_eq] at hB;obtain⟨⟨⟨⟨hsel,hlen⟩,hn⟩,ht⟩,hp⟩:=hB
 have inv0:HeadInv .any l.toArray n (Array.replicate l.toArray.size false) :=
  ⟨by simp,fun j oj _ hl=>(by rw[getD_replicate_false] at hl;cases hl),fun t _ ht=>getD_in (by simpa using ht) (getD_replicate_false _ _)⟩
 have H:=Cr (md:=.any) hsel ht hQ p _ a _ hp inv0 hS h;refine wp_region_any hm ?_
 have:=ED (g:=l.toArray.size-n) (fun listed a' w' hL=>by
  have hdl:(l.drop n).length=l.toArray.size-n:=by simp
  have:=wpAny_of_seq (md:=.any) (Q':=Q) (l.drop n) n listed a' w' (fun j=>by simp[List.getElem?_drop]) (by rw[hdl];exact hL.1) hL.2
  rwa [hdl] at this) _ _ _ _ H
 rw[hlen,show n+(l.toArray.size-n)=l.toArray.size by omega] at this;exact this
theorem AP {id:Nat} {a:Act} {w:World} {l:List Oper} (S:World→Prop) (n:Nat) (p:List (Nat×Bool)) (hm:P.follows .mixedOrders=true)
 (hB:Lv .any l.toArray n p=true) (hS:S w.drew) (h:BQ P l (NoPanic Q) S n p a w.drew):(Code.region id l.toArray true).wp P Q a w :=
 wp_region_noPanic (JT S n p hm hB (fun _ _ _ _ h=>h.elim) hS h)
theorem plan_look {l:List Oper} {n i:Nat} {r:List (Nat×Bool)} {a:Act} {w:World} {o:Oper} {v:Value} (ho:l[i]?=some o) (hw:Region.wanted o (yielded l.toArray a.tmps)=true)
 (hy:∀w0,S w0→(execOp a.eval o).run P w0=.ok (.value v) w0) (h:BQ P l Q S n r (a.put o.dst v) w):BQ P l Q S n ((i,false)::r) a w :=
 ⟨o,v,ho,.inl ⟨hw,hy⟩,h⟩
theorem BN {l:List Oper} {n i:Nat} {r:List (Nat×Bool)} {a:Act} {w:World} {o:Oper} (ho:l[i]?=some o) (hw:Region.wanted o (yielded l.toArray a.tmps)=false)
 (h:BQ P l Q S n r (a.put o.dst undef) w):BQ P l Q S n ((i,false)::r) a w :=
 ⟨o,undef,ho,.inr ⟨hw,rfl⟩,h⟩
theorem AW {l:List Oper} {n i:Nat} {r:List (Nat×Bool)} {a:Act} {w:World} {o:Oper} (ho:l[i]?=some o)
 (h:wpList P l.toArray (Exit.then (fun a' w'=>S w'∧BQ P l Q S n r a' w') Q) [o] a w):BQ P l Q S n ((i,true)::r) a w:=by
 show wpOp P l.toArray Q i _ a w
 have ho':l.toArray[i]?=some o:=by simpa using ho
 unfold wpOp;simp only[ho'];unfold wpList at h;split
 · rename_i hw
   rw[if_pos hw] at h;refine h.imp (fun h=>?_) id;unfold Oper.wp at h ⊢;generalize (execOp a.eval o).run P w=r at h ⊢;cases r with
   | ok nx w' =>
    cases nx<;>simp only[Oper.upon,wpList,Exit.then] at h ⊢ <;>
     first
      | exact h
      | exact Calls.mono h (fun e w'' he=>by cases e<;>exact he)
   | halt x w'=>cases x<;>simp only[Oper.upon,Exit.then] at h ⊢ <;> exact h
 rename_i hw;rw[if_neg hw] at h;exact h
theorem Aa {l:List Oper} {n i:Nat} {r:List (Nat×Bool)} {a:Act} {w:World} {o:Oper} (ho:l[i]?=some o) (hgd:o.guard=none) (ty:TypeId) (x:Operand) (hop:o.op=.load ty x) (g off k:Nat) (hx:a.eval x=.pointer (some ⟨g,off,none⟩))
 {t:TypeId} {cur:Array Value} {fr:Nat×Nat} {d:TypeDesc} (hg:∀w0,S w0→w0.heap[g]?=some (.cells cur t fr)) (hu:P.underlying ty=some d) (hd:d.isRow=true) (hi:(P.info? ty).map (·.size)=some k) (hfit:off+k≤cur.size) (cs:Array Value) (hv:cur.extract off (off+k)=cs)
 (h:BQ P l Q S n r (a.put o.dst (.agg cs)) w):BQ P l Q S n ((i,false)::r) a w :=
 plan_look ho (by simp[Region.wanted,hgd]) (fun w0 hS=>by
  unfold execOp;simp only[hop,hx,Instr.loadAt,Instr.sureAddr,Sem.run_bind,Sem.run_pure,Result.andThen_ok,BU w0 (hg w0 hS) hu hd hi hfit,hv]) h
theorem Cm {l:List Oper} {n i:Nat} {r:List (Nat×Bool)} {a:Act} {w:World} {o:Oper} (ho:l[i]?=some o) (hgd:o.guard=none) (t k j:Nat) (x y:Operand) (hop:o.op=.build t #[(k,x),(j,y)])
 (vx vy:Value) (hx:a.eval x=vx) (hy:a.eval y=vy) (cells:Array Value) (hf:P.built t [(k,vx),(j,vy)]=some cells)
 (h:BQ P l Q S n r (a.put o.dst (.agg cells)) w):BQ P l Q S n ((i,false)::r) a w :=
 plan_look ho (by simp[Region.wanted,hgd]) (fun w0 _=>by
  unfold execOp;have:=run_build (P:=P) w0 t (#[(k,x),(j,y)].map fun(i,x)=>(i,a.eval x)) cells (by simpa[hx,hy] using hf);simp only[hop,Sem.run_bind,this,Result.andThen_ok];rfl) h
theorem AZ {l:List Oper} {n:Nat} {a:Act} {w:World} (h:wpList P l.toArray Q (l.drop n) a w):BQ P l Q S n [] a w:=h
end
structure AG (α:Type:=Value) where
 room:Nat
 slots:List (α×Nat)
 free:List Nat
theorem CL:∀(l m:List Nat),l.Nodup→(∀x∈l,x∈m)→l.length≤m.length
 | [],_,_,_=>by simp
 | x::l,m,hn,hs=>by
  have hx:x∈m:=hs x (List.mem_cons_self ..)
  have ih:=CL l (m.erase x) (List.nodup_cons.1 hn).2 (fun y hy=>by
   have hne:y≠x:=fun e=>(List.nodup_cons.1 hn).1 (e▸hy)
   exact(List.mem_erase_of_ne hne).2 (hs y (List.mem_cons_of_mem _ hy)))
  have:=List.length_erase_of_mem hx;have:0<m.length:=List.length_pos_of_mem hx;simp only[List.length_cons];omega
namespace AG
def used {α:Type} (σ:AG α):Nat:=σ.slots.length-σ.free.length
def flat (l:List (Value×Nat)):List Value:=l.flatMap fun s=>s.1.cells.toList ++ [.int .i64 s.2]
def get? {α:Type} (σ:AG α) (n:Int):Option (α×Nat):=if 1≤n then (σ.slots[(n-1).toNat]?).filter (fun s=>s.2 != 0) else none
def count {α:Type} (σ:AG α) (n:Int):Nat:=((σ.get? n).map (·.2)).getD 0
def setAt {α:Type} (σ:AG α) (n:Int) (s:α×Nat):AG α := { σ with slots:=σ.slots.set (n-1).toNat s }
def take {α:Type} (σ:AG α) (x:α):Int×Int×AG α :=
 if σ.used=σ.room then (0,9,σ) else
 match σ.free.getLast? with
 | some n=>(n,0, { σ with slots:=σ.slots.set (n-1) (x,1),free:=σ.free.dropLast })
 | none=>(σ.slots.length+1,0, { σ with slots:=σ.slots ++ [(x,1)] })
def hold {α:Type} (σ:AG α) (n:Int):Int×AG α :=
 match σ.get? n with
 | none=>(7,σ)
 | some s=>if s.2=1073741824 then (4,σ) else (0,σ.setAt n (s.1,s.2+1))
def drop {α:Type} (z:α) (σ:AG α) (n:Int):Bool×Int×AG α :=
 match σ.get? n with
 | none=>(false,7,σ)
 | some s=>if s.2=1 then (true,0, { σ.setAt n (z,0) with free:=σ.free ++ [n.toNat] }) else (false,0,σ.setAt n (s.1,s.2-1))
def set {α:Type} (σ:AG α) (n:Int) (x:α):Int×AG α :=
 match σ.get? n with
 | none=>(7,σ)
 | some s=>(0,σ.setAt n (x,s.2))
structure WF {α:Type} (ok:α→Prop) (σ:AG α):Prop where
 room:1≤σ.room∧σ.room≤65536
 len:σ.slots.length≤σ.room
 things:∀s∈σ.slots,ok s.1
 counts:∀s∈σ.slots,s.2≤1073741824
 nodup:σ.free.Nodup
 free:∀n∈σ.free,1≤n∧∃v,σ.slots[n-1]?=some (v,0)
 freed:∀i v,σ.slots[i]?=some (v,0)→i+1∈σ.free
theorem Ac {α:Type} {σ:AG α} {n:Int} {s:α×Nat} (h:σ.get? n=some s):∃m:Nat,n=m+1∧σ.slots[m]?=some s∧s.2≠0∧m<σ.slots.length:=by
 unfold get? at h;split at h
 · rename_i h1
   obtain⟨h2,h3⟩:=Option.filter_eq_some_iff.1 h;exact⟨(n-1).toNat,by omega,h2,by simpa using h3,(List.getElem?_eq_some_iff.1 h2).1⟩
 cases h
theorem Ij {α:Type} {σ:AG α} {m:Nat} {s:α×Nat} (h:σ.slots[m]?=some s) (h0:s.2≠0):σ.get? (m+1)=some s:=by
 unfold get?;rw[if_pos (by omega),show((m:Int)+1-1).toNat=m by omega,h];simp[Option.filter,h0]
theorem LX {α:Type} {σ:AG α} {n:Int} (h:σ.get? n=none):n<1∨∃m:Nat,n=m+1∧(σ.slots.length≤m∨∃v,σ.slots[m]?=some (v,0)):=by
 unfold get? at h;split at h
 · rename_i h1
   refine .inr ⟨(n-1).toNat,by omega,?_⟩;cases hs:σ.slots[(n-1).toNat]? with
   | none=>exact .inl (by simpa using hs)
   | some s =>
    rw[hs] at h;simp[Option.filter] at h;exact .inr ⟨s.1,by rw[←h]⟩
 exact .inl (by omega)
theorem WF.Pp {α:Type} {ok:α→Prop} {σ:AG α} (h:σ.WF ok):σ.free.length≤σ.slots.length:=by
 have h1:∀n∈σ.free,n∈List.range' 1 σ.slots.length:=by
  intro n hn;obtain⟨h1,v,hv⟩:=h.free n hn;have:=(List.getElem?_eq_some_iff.1 hv).1;simp only[List.mem_range'_1];omega
 simpa using CL _ _ h.nodup h1
theorem WF.VH {α:Type} {ok:α→Prop} {σ:AG α} (h:σ.WF ok) {m:Nat} {s:α×Nat} (hs:σ.slots[m]?=some s) (h0:s.2≠0):σ.free.length<σ.slots.length:=by
 have hm:=(List.getElem?_eq_some_iff.1 hs).1
 have h1:∀n∈(m+1)::σ.free,n∈List.range' 1 σ.slots.length:=by
  intro n hn;rcases List.mem_cons.1 hn with rfl|hn
  · simp only[List.mem_range'_1];omega
  obtain⟨h1,v,hv⟩:=h.free n hn;have:=(List.getElem?_eq_some_iff.1 hv).1;simp only[List.mem_range'_1];omega
 have h2:((m+1)::σ.free).Nodup:=List.nodup_cons.2 ⟨fun hn=>by
  obtain⟨h1,v,hv⟩:=h.free _ hn;rw[show m+1-1=m by omega,hs] at hv;cases hv;exact h0 rfl,h.nodup⟩
 have:=CL _ _ h2 h1;simp at this;omega
theorem JB {sz:Nat}:∀(l:List (Value×Nat)),(∀s∈l,s.1.cells.size=sz)→(flat l).length=l.length*(sz+1)
 | [],_=>by simp[flat]
 | s::l,h=>by
  have ih:=JB l (fun s hs=>h s (List.mem_cons_of_mem _ hs));have h0:=h s (List.mem_cons_self ..);have e:flat (s::l)=(s.1.cells.toList ++ [.int .i64 s.2])++flat l:=by simp[flat]
  rw[e];simp only[List.length_append,ih,List.length_cons,List.length_nil,Array.length_toList,h0,Nat.add_mul];omega
theorem NF (l m:List (Value×Nat)):flat (l++m)=flat l++flat m:=by simp[flat]
theorem Dr (l:List (Value×Nat)) (i:Nat) (s:Value×Nat) (hi:l[i]?=some s) :
 flat l=flat (l.take i)++(s.1.cells.toList ++ [.int .i64 s.2])++flat (l.drop (i+1)):=by
 obtain⟨hlt,he⟩:=List.getElem?_eq_some_iff.1 hi
 conv=>lhs;rw[←List.take_append_drop i l,List.drop_eq_getElem_cons hlt,he]
 simp[flat]
theorem Kb (l:List (Value×Nat)) (i:Nat) (s:Value×Nat) (hi:i<l.length) :
 flat (l.set i s)=flat (l.take i)++(s.1.cells.toList ++ [.int .i64 s.2])++flat (l.drop (i+1)):=by
 rw[Dr (l.set i s) i s (by simp[hi])];rw[List.take_set_of_le (by omega)];simp[List.drop_set]
theorem Bs {sz:Nat} {l:List (Value×Nat)} (h:∀s∈l,s.1.cells.size=sz) {i:Nat} (hi:i≤l.length):(flat (l.take i)).length=i*(sz+1):=by
 rw[JB (sz:=sz) _ (fun s hs=>h s (List.mem_of_mem_take hs))];simp[Nat.min_eq_left hi]
theorem Oo {sz:Nat} {l:List (Value×Nat)} (h:∀s∈l,s.1.cells.size=sz) {i:Nat} {s:Value×Nat} (hi:l[i]?=some s):(flat l)[i*(sz+1)+sz]?=some (.int .i64 s.2):=by
 have hlt:=(List.getElem?_eq_some_iff.1 hi).1;have hs:s.1.cells.size=sz:=h s (List.mem_of_getElem? hi);rw[Dr l i s hi,List.append_assoc,List.getElem?_append_right (by rw[Bs h (by omega)];omega),Bs h (by omega)];rw[show i*(sz+1)+sz-i*(sz+1)=sz by omega,List.append_assoc,List.getElem?_append_right (by simp[hs])];simp[hs]
theorem Oa {sz:Nat} {l:List (Value×Nat)} (h:∀s∈l,s.1.cells.size=sz) {i:Nat} {s:Value×Nat} (hi:l[i]?=some s):((flat l).drop (i*(sz+1))).take sz=s.1.cells.toList:=by
 have hlt:=(List.getElem?_eq_some_iff.1 hi).1;have hs:s.1.cells.size=sz:=h s (List.mem_of_getElem? hi);rw[Dr l i s hi,List.append_assoc,List.drop_append_of_le_length (by rw[Bs h (by omega)];omega)];rw[List.drop_eq_nil_of_le (by rw[Bs h (by omega)];omega),List.nil_append,List.append_assoc,List.take_append_of_le_length (by simp[hs])];rw[List.take_of_length_le (by simp[hs])]
theorem JC {sz:Nat} {l:List (Value×Nat)} (h:∀s∈l,s.1.cells.size=sz) {i:Nat} (hi:i<l.length) {s:Value×Nat} (hs:s.1.cells.size=sz) :
 splice (flat l) (i*(sz+1)) (s.1.cells.toList ++ [.int .i64 s.2])=flat (l.set i s):=by
 obtain⟨s0,hs0⟩:∃s0,l[i]?=some s0:=⟨l[i],by simp[hi]⟩
 have h0:s0.1.cells.size=sz:=h s0 (List.mem_of_getElem? hs0);rw[Kb l i s hi,Dr l i s0 hs0,splice];have ht:=Bs h (i:=i) (by omega)
 have e1:List.take (i*(sz+1)) (flat (List.take i l)++(s0.1.cells.toList ++ [.int .i64 s0.2])++flat (List.drop (i+1) l))=flat (List.take i l):=by
  rw[List.append_assoc,List.take_append_of_le_length (by omega),List.take_of_length_le (by omega)]
 have e2:List.drop (i*(sz+1)+(s.1.cells.toList ++ [Value.int .i64 s.2]).length) (flat (List.take i l)++(s0.1.cells.toList ++ [.int .i64 s0.2])++flat (List.drop (i+1) l))=flat (List.drop (i+1) l):=by
  rw[List.drop_append,List.drop_eq_nil_of_le (by simp[ht,h0,hs]),List.nil_append];simp[ht,h0,hs]
 rw[e1,e2]
theorem Ei {sz:Nat} {l:List (Value×Nat)} (h:∀s∈l,s.1.cells.size=sz) {i:Nat} {s:Value×Nat} (hi:l[i]?=some s) (c:Nat) :
 (flat l).set (i*(sz+1)+sz) (.int .i64 c)=flat (l.set i (s.1,c)):=by
 have hlt:=(List.getElem?_eq_some_iff.1 hi).1;have hs:s.1.cells.size=sz:=h s (List.mem_of_getElem? hi);have ht:=Bs h (i:=i) (by omega);rw[Kb l i _ hlt,Dr l i s hi,List.append_assoc,List.append_assoc,List.set_append_right _ _ (by omega),ht];rw[show i*(sz+1)+sz-i*(sz+1)=sz by omega,List.set_append_right _ _ (by simp[hs])];simp[hs]
theorem WF.set {α:Type} {ok:α→Prop} {σ:AG α} (h:σ.WF ok) {i:Nat} {s t:α×Nat} (hi:σ.slots[i]?=some s) (h0:s.2≠0) (ht:ok t.1) (hc:t.2≤1073741824) (hc0:t.2≠0):WF ok { σ with slots:=σ.slots.set i t }:=by
 have hlt:=(List.getElem?_eq_some_iff.1 hi).1;refine⟨h.room,by simpa using h.len,fun s hs=>?_,fun s hs=>?_,h.nodup,fun n hn=>?_,fun j v hv=>?_⟩
 · rcases List.mem_or_eq_of_mem_set hs with hs|rfl
   · exact h.things s hs
   exact ht
 · rcases List.mem_or_eq_of_mem_set hs with hs|rfl
   · exact h.counts s hs
   exact hc
 · obtain⟨h1,v,hv⟩:=h.free n hn
   refine⟨h1,v,?_⟩;rw[List.getElem?_set_ne]
   · exact hv
   intro e;subst e;rw[hi] at hv;cases hv;exact h0 rfl
 by_cases e:i=j
 · subst e
   rw[List.getElem?_set_self hlt] at hv;cases hv;exact absurd rfl hc0
 rw[List.getElem?_set_ne e] at hv;exact h.freed j v hv
theorem WF.Wq {α:Type} {ok:α→Prop} {σ:AG α} (h:σ.WF ok) {i:Nat} {s:α×Nat} {z:α} (hi:σ.slots[i]?=some s) (h0:s.2≠0) (hz:ok z):WF ok { σ with slots:=σ.slots.set i (z,0),free:=σ.free ++ [i+1] }:=by
 have hlt:=(List.getElem?_eq_some_iff.1 hi).1;refine⟨h.room,by simpa using h.len,fun s hs=>?_,fun s hs=>?_,?_,fun n hn=>?_,fun j v hv=>?_⟩
 · rcases List.mem_or_eq_of_mem_set hs with hs|rfl
   · exact h.things s hs
   exact hz
 · rcases List.mem_or_eq_of_mem_set hs with hs|rfl
   · exact h.counts s hs
   simp
 · refine List.nodup_append.2 ⟨h.nodup,by simp,fun x hx y hy=>?_⟩
   simp only[List.mem_singleton] at hy;subst hy;intro e;subst e;obtain⟨_,v,hv⟩:=h.free _ hx;rw[show i+1-1=i by omega,hi] at hv;cases hv;exact h0 rfl
 · rcases List.mem_append.1 hn with hn|hn
   · obtain⟨h1,v,hv⟩:=h.free n hn
     refine⟨h1,v,?_⟩;rw[List.getElem?_set_ne]
     · exact hv
     intro e;subst e;rw[hi] at hv;cases hv;exact h0 rfl
   simp only[List.mem_singleton] at hn;subst hn;exact⟨by omega,z,by rw[show i+1-1=i by omega,List.getElem?_set_self hlt]⟩
 by_cases e:i=j
 · subst e;simp
 rw[List.getElem?_set_ne e] at hv;exact List.mem_append_left _ (h.freed j v hv)
theorem WF.reuse {α:Type} {ok:α→Prop} {σ:AG α} (h:σ.WF ok) {fr:List Nat} {n:Nat} (hf:σ.free=fr ++ [n]) {x:α} (hx:ok x):WF ok { σ with slots:=σ.slots.set (n-1) (x,1),free:=fr }:=by
 obtain⟨h1,v0,hv0⟩:=h.free n (by rw[hf];simp);have hlt:=(List.getElem?_eq_some_iff.1 hv0).1;have hnd:=h.nodup;rw[hf] at hnd;obtain⟨hn1,_,hn2⟩:=List.nodup_append.1 hnd;refine⟨h.room,by simpa using h.len,fun s hs=>?_,fun s hs=>?_,hn1,fun m hm=>?_,fun j v hv=>?_⟩
 · rcases List.mem_or_eq_of_mem_set hs with hs|rfl
   · exact h.things s hs
   exact hx
 · rcases List.mem_or_eq_of_mem_set hs with hs|rfl
   · exact h.counts s hs
   simp
 · obtain⟨h2,v,hv⟩:=h.free m (by rw[hf];simp[hm])
   refine⟨h2,v,?_⟩;rw[List.getElem?_set_ne]
   · exact hv
   intro e;exact hn2 m hm n (by simp) (by omega)
 by_cases e:n-1=j
 · subst e
   rw[List.getElem?_set_self hlt] at hv;cases hv
 rw[List.getElem?_set_ne e] at hv;have:=h.freed j v hv;rw[hf,List.mem_append,List.mem_singleton] at this;rcases this with h' | h'
 · exact h'
 omega
theorem WF.push {α:Type} {ok:α→Prop} {σ:AG α} (h:σ.WF ok) (hf:σ.free = []) (hr:σ.used≠σ.room) {x:α} (hx:ok x):WF ok { σ with slots:=σ.slots ++ [(x,1)] }:=by
 have hl:=h.len;refine⟨h.room,?_,fun s hs=>?_,fun s hs=>?_,h.nodup,fun m hm=>?_,fun j v hv=>?_⟩
 · simp[used,hf] at hr
   simp;omega
 · rcases List.mem_append.1 hs with hs|hs
   · exact h.things s hs
   simp only[List.mem_singleton] at hs;subst hs;exact hx
 · rcases List.mem_append.1 hs with hs|hs
   · exact h.counts s hs
   simp only[List.mem_singleton] at hs;subst hs;simp
 · rw[hf] at hm;cases hm
 simp only at hv;rcases Nat.lt_or_ge j σ.slots.length with hj|hj
 · rw[List.getElem?_append_left hj] at hv
   exact h.freed j v hv
 rw[List.getElem?_append_right hj] at hv;cases hq:j-σ.slots.length with
 | zero=>rw[hq] at hv;simp at hv
 | succ k=>rw[hq] at hv;simp at hv
theorem WF.empty {α:Type} (ok:α→Prop) (n:Nat) (h1:1≤n) (h2:n≤65536):WF ok ⟨n,[],[]⟩ :=
 ⟨⟨h1,h2⟩,Nat.zero_le _,(by simp),(by simp),List.nodup_nil,(by simp),(by simp)⟩
end AG
structure OkT (ok:Value→Prop) (sz:Nat):Prop where
 size:∀v,ok v→v.cells.size=sz
 one:∀v,ok v→∀c∈v.cells.toList,c.oneCell'=true
def EH (eS eI T:TypeId) (sz:Nat) (ok:Value→Prop) (w:World) (a:Nat) (F:Nat→Prop) (σ:AG):Prop :=
 σ.WF ok∧∃vs vf,w.heap[a]?=some (.cells #[vs,vf,.int .i64 σ.room,.int .i64 σ.used] T (0,0))∧w.ownsRow 0 eS (sz+1) vs σ.slots.length (AG.flat σ.slots) ∧
  w.ownsRow 0 eI 1 vf σ.free.length (σ.free.map fun n=>Value.int .i64 (n:Nat))∧F a∧(∀k,vs.ownBlock=some k→F k∧k≠a) ∧
  (∀k,vf.ownBlock=some k→F k∧k≠a∧vs.ownBlock≠some k)∧(∀k,F k→k<w.heap.size)
theorem EH.Ae {eS eI T:TypeId} {sz:Nat} {ok:Value→Prop} {w w':World} {a:Nat} {F G:Nat→Prop} {σ:AG} (h:EH eS eI T sz ok w a F σ) (hc:Ch G w w') (hd:∀k,F k→¬G k):EH eS eI T sz ok w' a F σ:=by
 obtain⟨h0,vs,vf,h1,h2,h3,h4,h5,h6,h7⟩:=h;exact⟨h0,vs,vf,hc.row h1 (hd a h4),hc.owns h2 (fun k hk=>hd k (h5 k hk).1),hc.owns h3 (fun k hk=>hd k (h6 k hk).1),h4,h5,h6,fun k hk=>Nat.lt_of_lt_of_le (h7 k hk) hc.size⟩
theorem EH.make {eS eI T:TypeId} {sz:Nat} {ok:Value→Prop} {w:World} {a:Nat} {F:Nat→Prop} {σ:AG} {vs vf:Value} {r u:Int} (h0:σ.WF ok) (h1:w.heap[a]?=some (.cells #[vs,vf,.int .i64 r,.int .i64 u] T (0,0))) (hr:r=σ.room) (hu:u=σ.used)
 (h2:w.ownsRow 0 eS (sz+1) vs σ.slots.length (AG.flat σ.slots)) (h3:w.ownsRow 0 eI 1 vf σ.free.length (σ.free.map fun n=>Value.int .i64 (n:Nat))) (h4:F a) (h5:∀k,vs.ownBlock=some k→F k∧k≠a)
 (h6:∀k,vf.ownBlock=some k→F k∧k≠a∧vs.ownBlock≠some k) (h7:∀k,F k→k<w.heap.size):EH eS eI T sz ok w a F σ:=by
 subst hr;subst hu;exact⟨h0,vs,vf,h1,h2,h3,h4,h5,h6,h7⟩
theorem Bq {w:World} {base n sz:Nat} {e:TypeId} {v:Value} {xs:List Value} (h:w.ownsRow base e sz v n xs) (hn:0<n) :
 ∃g cap cur,v=.slice (some ⟨g,0,none⟩) n cap∧w.heap[g]?=some (.cells cur e (0,0))∧n≤cap∧cap≤maxLen∧cur.size=cap*sz∧cur.toList.take (n*sz)=xs:=by
 rcases h.2 with⟨_,h0⟩|⟨g,cap,cur,h1,_,h2,h3,h4,h5,h6⟩
 · omega
 exact⟨g,cap,cur,h1,h2,h3,h4,h5,h6⟩
theorem Am {w:World} {base n sz:Nat} {e:TypeId} {v:Value} {xs:List Value} (h:w.ownsRow base e sz v n xs):∃ao cap,v=.slice ao n cap:=by
 rcases h.2 with⟨h1,h0⟩|⟨g,cap,cur,h1,_⟩
 · subst h0;exact⟨none,0,h1⟩
 exact⟨_,cap,h1⟩
theorem MT {w:World} {g n cap sz:Nat} {e:TypeId} {cur:Array Value} {xs:List Value} (hg:w.heap[g]?=some (.cells cur e (0,0))) (h1:n≤cap) (h2:cap≤maxLen) (h3:cur.size=cap*sz) (h4:cur.toList.take (n*sz)=xs) :
 w.ownsRow 0 e sz (.slice (some ⟨g,0,none⟩) n cap) n xs:=by
 refine⟨?_,.inr ⟨g,cap,cur,rfl,Nat.zero_le _,hg,h1,h2,h3,h4⟩⟩;rw[←h4,List.length_take];have:n*sz≤cap*sz:=Nat.mul_le_mul_right _ h1;simp only[Array.length_toList];omega
theorem Dx {cur:Array Value} {k:Nat} {xs:List Value} (h:cur.toList.take k=xs) {i:Nat} {v:Value} (hi:xs[i]?=some v):cur[i]?=some v:=by
 subst h;rw[List.getElem?_take] at hi;split at hi
 · simpa using hi
 cases hi
theorem D8 {cur:Array Value} {k off:Nat} {xs v:List Value} (h:cur.toList.take k=xs) (hk:k≤cur.size) (hv:off+v.length≤k):(splice cur.toList off v).take k=splice xs off v:=by
 subst h;simp only[splice];have e1:(cur.toList.take k).take off=cur.toList.take off:=by rw[List.take_take,Nat.min_eq_left (by omega)]
 have e2:(cur.toList.take k).drop (off+v.length)=(cur.toList.drop (off+v.length)).take (k-(off+v.length)):=by rw[List.drop_take]
 rw[e1,e2,List.take_append,List.take_of_length_le (by simp;omega)]
 congr 1
 simp
 congr 1
 omega
namespace AG
def occ {α:Type} (σ:AG α):Nat→List Nat
 | 0 => []
 | k+1=>occ σ k++(match σ.get? (k+1) with|none => []|some _ => [k+1])
theorem J2 {α:Type} {σ:AG α} {k:Nat} (h:σ.get? ((k:Int)+1)=none):σ.occ (k+1)=σ.occ k:=by
 rw[occ,h];simp
theorem KZ {α:Type} {σ:AG α} {k:Nat} {s:α×Nat} (h:σ.get? ((k:Int)+1)=some s):σ.occ (k+1)=σ.occ k ++ [k+1]:=by
 rw[occ,h]
theorem Pv {α:Type} (σ:AG α):∀k,(σ.occ k).length≤k
 | 0=>Nat.le_refl _
 | k+1=>by
  have:=Pv σ k;cases h:σ.get? ((k:Int)+1) with
  | none=>rw[J2 h];omega
  | some s=>rw[KZ h];simp;omega
theorem Hx {sz:Nat} {l:List (Value×Nat)} (h:∀s∈l,s.1.cells.size=sz) {i:Nat} {s:Value×Nat} (hi:l[i]?=some s) {v:Value} (hv:v.cells.size=sz) :
 splice (flat l) (i*(sz+1)) v.cells.toList=flat (l.set i (v,s.2)):=by
 have hlt:=(List.getElem?_eq_some_iff.1 hi).1;have hs:s.1.cells.size=sz:=h s (List.mem_of_getElem? hi);have ht:=Bs h (i:=i) (by omega);rw[Kb l i _ hlt,Dr l i s hi,splice]
 have e1:List.take (i*(sz+1)) (flat (List.take i l)++(s.1.cells.toList ++ [.int .i64 s.2])++flat (List.drop (i+1) l))=flat (List.take i l):=by
  rw[List.append_assoc,List.take_append_of_le_length (by omega),List.take_of_length_le (by omega)]
 have e2:List.drop (i*(sz+1)+v.cells.toList.length) (flat (List.take i l)++(s.1.cells.toList ++ [.int .i64 s.2])++flat (List.drop (i+1) l)) = [.int .i64 s.2]++flat (List.drop (i+1) l):=by
  rw[List.append_assoc,List.append_assoc,List.drop_append,List.drop_eq_nil_of_le (by simp[ht]),List.nil_append,ht];rw[show i*(sz+1)+v.cells.toList.length-i*(sz+1)=sz by simp[hv],List.drop_append,List.drop_eq_nil_of_le (by simp[hs])];simp[hs]
 rw[e1,e2];simp
end AG
abbrev wv (x:UInt32):Value:=.int .u32 (x.toNat:Int)
abbrev bv (x:UInt8):Value:=.int .u8 (x.toNat:Int)
theorem K8 (x y:UInt32):bits .xor .u32 (x.toNat:Int) (y.toNat:Int)=((x ^^^ y).toNat:Int):=by
 rw[u32_xor_nat _ _ x.toNat_lt y.toNat_lt,UInt32.toNat_xor]
theorem Ww (x y:UInt32):bits .and .u32 (x.toNat:Int) (y.toNat:Int)=((x &&& y).toNat:Int):=by
 rw[u32_and_nat _ _ x.toNat_lt y.toNat_lt,UInt32.toNat_and]
theorem Uk (x y:UInt32):bits .or .u32 (x.toNat:Int) (y.toNat:Int)=((x ||| y).toNat:Int):=by
 rw[u32_or_nat _ _ x.toNat_lt y.toNat_lt,UInt32.toNat_or]
theorem VT (x:UInt32):bits .xor .u32 4294967295 (x.toNat:Int)=((~~~ x).toNat:Int):=by
 have h:=K8 4294967295 x
 have h2:(4294967295:UInt32) ^^^ x = ~~~ x:=by
  apply UInt32.eq_of_toBitVec_eq
  show(4294967295#32) ^^^ x.toBitVec = ~~~ x.toBitVec
  rw[show(4294967295#32)=BitVec.allOnes 32 from rfl];exact BitVec.allOnes_xor
 rw[h2] at h;exact h
theorem TN (x y:UInt32):IntKind.u32.wrap ((x.toNat:Int)+(y.toNat:Int))=((x+y).toNat:Int)∧((x.toNat:Int)+(y.toNat:Int)) % (4294967296:Int)=((x+y).toNat:Int):=by
 have:((x.toNat:Int)+(y.toNat:Int)) % (4294967296:Int)=((x+y).toNat:Int):=by rw[UInt32.toNat_add];omega
 exact⟨by rw[IntKind.wrap_u32'];exact this,this⟩
theorem Pm (x:UInt32) (n:Nat) (A:Int) (h:n<32) (hA:A=2 ^ n):(x.toNat:Int)*A % 4294967296=((x <<< UInt32.ofNat n).toNat:Int):=by
 subst hA;rw[UInt32.toNat_shiftLeft];have:(UInt32.ofNat n).toNat % 32=n:=by rw[UInt32.toNat_ofNat'];omega
 rw[this,Nat.shiftLeft_eq,Int.natCast_emod,Int.natCast_mul,Int.natCast_pow];rfl
theorem SM (x:UInt32) (n:Nat) (A:Int) (h:n<32) (hA:A=2 ^ n):(x.toNat:Int) / A=((x >>> UInt32.ofNat n).toNat:Int):=by
 subst hA;rw[UInt32.toNat_shiftRight];have:(UInt32.ofNat n).toNat % 32=n:=by rw[UInt32.toNat_ofNat'];omega
 rw[this,Nat.shiftRight_eq_div_pow,Int.natCast_ediv,Int.natCast_pow];rfl
def Cg (x:UInt32) (n:Nat):UInt32:=(x <<< UInt32.ofNat (32-n)) ||| (x >>> UInt32.ofNat n)
theorem E4 (x:UInt32) (n:Nat) (A B:Int) (h0:0<n) (h:n<32) (hA:A=2 ^ (32-n)) (hB:B=2 ^ n):bits .or .u32 ((x.toNat:Int)*A % 4294967296) ((x.toNat:Int) / B)=((Cg x n).toNat:Int):=by
 rw[Pm x (32-n) A (by omega) hA,SM x n B h hB,Uk,Cg]
theorem Vu (x:UInt32):(x.toNat:Int) / 8=((x >>> 3).toNat:Int):=SM x 3 8 (by omega) rfl
theorem UG (x:UInt32):(x.toNat:Int) / 1024=((x >>> 10).toNat:Int):=SM x 10 1024 (by omega) rfl
theorem Vq (x:UInt32):(x.toNat:Int)*256 % 4294967296=((x <<< 8).toNat:Int):=Pm x 8 256 (by omega) rfl
theorem UJ (x:UInt32):(x.toNat:Int)*65536 % 4294967296=((x <<< 16).toNat:Int):=Pm x 16 65536 (by omega) rfl
theorem U7 (x:UInt32):(x.toNat:Int)*16777216 % 4294967296=((x <<< 24).toNat:Int):=Pm x 24 16777216 (by omega) rfl
def B6 (l:List UInt32):Array Value:=(l.map wv).toArray
def AS (l:List UInt8):Array Value:=(l.map bv).toArray
theorem Cy (l:List UInt32):(B6 l).size=l.length:=by simp[B6]
theorem EX (l:List UInt32):∀v∈(B6 l).toList,v.oneCell'=true:=fun v hv=>by
 simp only[B6,List.mem_map] at hv;obtain⟨x,_,rfl⟩:=hv;rfl
theorem AU (l:List UInt8):(AS l).size=l.length:=by simp[AS]
theorem Dd {l:List UInt8} {i:Nat} (h:i<l.length):(AS l)[i]?=some (bv (l.getD i 0)):=by
 simp[AS,h]
theorem EV {l:List UInt8} {i:Nat} {x:UInt8} (h:l[i]?=some x):(AS l)[i]?=some (bv x):=by
 simp[AS,h]
theorem BO (l:List UInt8):∀v∈(AS l).toList,v.oneCell'=true:=fun v hv=>by
 simp only[AS,List.mem_map] at hv;obtain⟨x,_,rfl⟩:=hv;rfl
theorem DI (l:List UInt8):∀v∈l.map bv,v.oneCell'=true:=fun v hv=>by
 simp only[List.mem_map] at hv;obtain⟨x,_,rfl⟩:=hv;rfl
def Bytes (w:World) (v:Value) (bs:List UInt8):Prop :=
 ∃ao cap,v=.slice ao bs.length cap∧bs.length≤cap∧cap≤maxLen∧∀(j:Nat) (x:UInt8),bs[j]?=some x→∃g off,ao=some ⟨g,off,none⟩∧w.cell? ⟨g,off+j,none⟩=some (bv x)
theorem Bytes.form {w:World} {v:Value} {bs:List UInt8} (h:Bytes w v bs):∃ao cap,v=.slice ao bs.length cap∧bs.length≤cap∧cap≤maxLen:=by
 obtain⟨ao,cap,h1,h2,h3,_⟩:=h;exact⟨ao,cap,h1,h2,h3⟩
theorem Bytes.at {w:World} {ao:Option Addr} {len cap:Nat} {bs:List UInt8} (h:Bytes w (.slice ao len cap) bs):len=bs.length∧∀(j:Nat) (x:UInt8),bs[j]?=some x→∃g off,ao=some ⟨g,off,none⟩∧w.cell? ⟨g,off+j,none⟩=some (bv x):=by
 obtain⟨ao',cap',h1,h2,h3,h4⟩:=h;cases h1;exact⟨rfl,h4⟩
theorem Ju {w:World} {p:Addr} {v:Value} (hc:w.cell? p=some v):p.block<w.heap.size:=by
 unfold World.cell? at hc;cases hq:w.heap[p.block]? with
 | none=>simp only[hq] at hc;cases hc
 | some o=>exact Ad hq
theorem Ch.cell {F:Nat→Prop} {w w':World} (h:Ch F w w') {p:Addr} {v:Value} (hc:w.cell? p=some v) (hp:¬F p.block):w'.cell? p=some v:=by
 have:=h.block p.block (Ju hc) hp;unfold World.cell? at hc ⊢;rw[this];exact hc
theorem Bytes.Ae {F:Nat→Prop} {w w':World} {v:Value} {bs:List UInt8} (h:Bytes w v bs) (hc:Ch F w w') (hF:∀k,v.ownBlock=some k→¬F k):Bytes w' v bs:=by
 obtain⟨ao,cap,rfl,h2,h3,h4⟩:=h;refine⟨ao,cap,rfl,h2,h3,fun j x hx=>?_⟩;obtain⟨g,off,rfl,hg⟩:=h4 j x hx;exact⟨g,off,rfl,hc.cell hg (hF g rfl)⟩
theorem Bytes.TZ {F:Nat→Prop} {w w':World} {v:Value} {bs:List UInt8} (h:Bytes w v bs) (hc:Ch F w w') (hF:bs ≠ []→∀k,v.ownBlock=some k→¬F k):Bytes w' v bs:=by
 by_cases he:bs = []
 · subst he
   obtain⟨ao,cap,rfl,h2,h3,h4⟩:=h;exact⟨ao,cap,rfl,h2,h3,fun j x hx=>by simp at hx⟩
 exact h.Ae hc (hF he)
theorem Bytes.nil (w:World):Bytes w (.slice none 0 0) []:=⟨none,0,rfl,Nat.le_refl _,Nat.zero_le _,fun j x hx=>by simp at hx⟩
theorem Bytes.row {w:World} {g n:Nat} {t:TypeId} {fr:Nat×Nat} {bs:List UInt8} (hg:w.heap[g]?=some (.cells (AS bs) t fr)) (hn:bs.length=n) (hm:n≤maxLen):Bytes w (.slice (some ⟨g,0,none⟩) n n) bs:=by
 subst hn;refine⟨_,_,rfl,Nat.le_refl _,hm,fun j x hx=>⟨g,0,rfl,?_⟩⟩;rw[Nat.zero_add];exact AH hg (EV hx)
def adv (a:Option Addr) (cap i:Nat):Option Addr:=if cap=i then a else a.map (·.add (i*1))
theorem QC {a:Option Addr} {cap i n c k:Nat} (h:(Value.slice (adv a cap i) n c).ownBlock=some k):∃n' c',(Value.slice a n' c').ownBlock=some k:=by
 refine⟨0,0,?_⟩;unfold adv at h;split at h
 · cases a<;>exact h
 cases a with
 | none=>cases h
 | some x=>simp only[Option.map_some,Value.ownBlock] at h ⊢;rw[←h];unfold Addr.add;split<;>rfl
theorem Bytes.drop {w:World} {ao:Option Addr} {len cap:Nat} {bs:List UInt8} (h:Bytes w (.slice ao len cap) bs) {i:Nat} (hi:i≤len):Bytes w (.slice (adv ao cap i) (len-i) (cap-i)) (bs.drop i):=by
 obtain⟨ao',cap',h1,h2,h3,h4⟩:=h;cases h1;refine⟨_,_,by rw[List.length_drop],by rw[List.length_drop];omega,by omega,fun j x hx=>?_⟩;rw[List.getElem?_drop] at hx;obtain⟨g,off,rfl,hg⟩:=h4 _ x hx;have hlt:=(List.getElem?_eq_some_iff.1 hx).1;refine⟨g,off+i,?_,by rw[←hg,Nat.add_assoc]⟩;unfold adv;rw[if_neg (by omega),Option.map_some,Nat.mul_one];unfold Addr.add;split
 · rename_i h0;subst h0;rfl
 rfl
theorem add_plain (g o n:Nat):(⟨g,o,none⟩:Addr).add n=⟨g,o+n,none⟩:=by
 unfold Addr.add;split
 · rename_i h;subst h;rfl
 rfl
section
variable {P : Program}
theorem run_arr_l (w:World) (t:TypeId) (N:Nat) (ht:P.underlying t=some (.array (P.arrayLen t) (P.elem t))) (hN:P.arrayLen t=N) (hs:(P.info? (P.elem t)).map (·.size)=some 1) (g off i:Nat) (k:IntKind) (hi:i<N) :
 (Instr.sliceAt t (.pointer (some ⟨g,off,none⟩)) (some (.int k (i:Int))) none none).run P w=.ok (.slice (some ⟨g,off+i,none⟩) (N-i) (N-i)) w:=by
 subst hN;rw[run_sliceAt_array_l w t _ ht k (i:Int) (by omega) (by omega)];cases hq:P.info? (P.elem t) with
 | none=>rw[hq] at hs;cases hs
 | some inf =>
  rw[hq] at hs;have hs':inf.size=1:=by simpa using hs
  have hsz:(sizeOf (P.elem t)).run P w=.ok 1 w:=by rw[←hs'];simp[sizeOf,typeInfo,hq]
  simp only[hsz,Result.andThen_ok,slicedAt,Int.toNat_natCast];rw[if_neg (by omega),add_plain,Nat.mul_one]
theorem DS (w:World) (t:TypeId) (N:Nat) (ht:P.underlying t=some (.array (P.arrayLen t) (P.elem t))) (hN:P.arrayLen t=N) (hs:(P.info? (P.elem t)).isSome=true) (g off:Nat) :
 (Instr.sliceAt t (.pointer (some ⟨g,off,none⟩)) none none none).run P w=.ok (.slice (some ⟨g,off,none⟩) N N) w:=by
 subst hN;rw[run_sliceAt_array_all w t _ ht];cases hq:P.info? (P.elem t) with
 | none=>rw[hq] at hs;cases hs
 | some inf =>
  have hsz:(sizeOf (P.elem t)).run P w=.ok inf.size w:=by simp[sizeOf,typeInfo,hq]
  simp only[hsz,Result.andThen_ok,slicedAt,Nat.sub_zero,Nat.zero_mul];split
  · rfl
  rw[add_plain,Nat.add_zero]
theorem Dk {w:World} {ops:Array Oper} {rest:List Oper} {o:Oper} {a:Act} {Q:Exit→Act→World→Prop} (hgd:o.guard=none) (d s:Operand) (dT sT:TypeId)
 (ho:o.op=.call { callee:=.builtin .copy,args:=#[d,s],argTypes:=#[dT,sT] }) (elem:TypeId) (hu:P.underlying dT=some (.slice elem)) (hsz:(P.info? elem).map (·.size)=some 1)
 (g off dLen dCap:Nat) (ad:Addr) (sLen sCap:Nat) (hd:a.eval d=.slice (some ⟨g,off,none⟩) dLen dCap) (hs:a.eval s=.slice (some ad) sLen sCap)
 (cur:Array Value) (t:TypeId) (hg:w.heap[g]?=some (.cells cur t (0,0))) (cs:List Value) (k:Nat) (hk:cs.length=k) (hn:k=Nat.min sLen dLen)
 (hsrc:∀j v,cs[j]?=some v→w.cell? (ad.add j)=some v) (hfit:off+k≤cur.size) (h1:∀v∈cs,v.oneCell'=true)
 (new:Array Value) (hnew:(cur.toList.take off++(cs++cur.toList.drop (off+k))).toArray=new)
 (h:wpList P ops Q rest (a.put o.dst (.int .i64 (k:Int))) (w.setRow g new)):wpList P ops Q (o::rest) a w:=by
 subst hk hnew;exact wpList_copy_own hgd d s dT sT ho elem hu hsz g off dLen dCap ad sLen sCap hd hs cur t hg cs hn hsrc hfit h1 h
theorem Gp (w:World) (t:TypeId) (ht:P.underlying t=some (.slice (P.elem t))) (hs:(P.info? (P.elem t)).map (·.size)=some 1) (ao:Option Addr) (len cap i:Nat) (k:IntKind) (hi:i≤len) :
 (Instr.sliceAt t (.slice ao len cap) (some (.int k (i:Int))) none none).run P w=.ok (.slice (adv ao cap i) (len-i) (cap-i)) w:=by
 rw[run_sliceAt_slice w t _ _ _ _ ht,run_slice_l w t ao len cap ht k (i:Int) (by omega) (by omega)];cases hq:P.info? (P.elem t) with
 | none=>rw[hq] at hs;cases hs
 | some inf =>
  rw[hq] at hs;have hs':inf.size=1:=by simpa using hs
  have hsz:(sizeOf (P.elem t)).run P w=.ok 1 w:=by rw[←hs'];simp[sizeOf,typeInfo,hq]
  simp only[hsz,Result.andThen_ok,sliced,Int.toNat_natCast];rfl
theorem KG {w:World} {ops:Array Oper} {rest:List Oper} {o:Oper} {a:Act} {Q:Exit→Act→World→Prop} (hgd:o.guard=none) (t:TypeId) (x y:Operand) (ho:o.op=.slice t x none (some y) none)
 (ht:P.underlying t=some (.slice (P.elem t))) (hs:(P.info? (P.elem t)).isSome=true) (ao:Option Addr) (len cap:Nat) (hx:a.eval x=.slice ao len cap) (i:Nat) (k:IntKind) (hy:a.eval y=.int k (i:Int)) (hi:i≤cap)
 (h:wpList P ops Q rest (a.put o.dst (.slice ao i cap)) w):wpList P ops Q (o::rest) a w :=
 wpList_plain hgd fun _ hK=>by
  unfold Oper.wp execOp;simp only[ho,hx,hy,Option.map_some,Option.map_none];rw[Sem.run_bind,run_sliceAt_slice w t _ _ _ _ ht,run_slice_h w t ao len cap ht k (i:Int) (by omega) (by omega)];cases hq:P.info? (P.elem t) with
  | none=>rw[hq] at hs;cases hs
  | some inf =>
   have e:(Value.slice (if cap=0 then ao else ao.map (·.add (0*inf.size))) (i-0) (cap-0))=.slice ao i cap:=by
    rw[Nat.zero_mul,Nat.sub_zero,Nat.sub_zero]
    congr 1
    split
    · rfl
    cases ao<;>rfl
   have hsz:(sizeOf (P.elem t)).run P w=.ok inf.size w:=by simp[sizeOf,typeInfo,hq]
   simp only[hsz,Sem.run_pure,Result.andThen_ok,sliced,Int.toNat_natCast,e];exact hK _ _ h
end
section
variable {P : Program}
theorem JU (w:World) (t ty e:TypeId) (i:TypeInfo) (ht:P.underlying t=some (.slice e)) (hi:P.info? e=some i) (hz:i.zero=some (.int .u8 0)) (hsize:i.size=1) (hby:i.bytes=1)
 (xv:Value) (bs:List UInt8) (hb:Bytes w xv bs) (hlen:bs.length≤140737488355328) :
 ∃v' w',(Builtin.append_ #[t,t] ty #[.slice none 0 0,xv]).run P w=.ok v' w'∧Bytes w' v' bs∧(∀k,v'.ownBlock=some k→w.heap.size≤k∧k<w'.heap.size)∧Ch (fun _=>False) w w':=by
 obtain⟨ao,cap,rfl,hcap,hcm,hat⟩:=hb;cases bs with
 | nil =>
  refine⟨_,w,run_append_nothing w t t ty e i ht hi none 0 0 (Nat.le_refl _) _ ?_,Bytes.nil w,(fun k hk=>by cases hk),Ch.refl _ _⟩;cases ao with
  | none=>exact Src.ofNil w ht cap
  | some ad=>exact Src.ofSlice w ht ad 0 cap [] (by simp) (fun j u h=>by simp at h) (fun u h=>by cases h)
 | cons x bs =>
  obtain⟨g,off,rfl,_⟩:=hat 0 x rfl
  have hnews:∀j u,((x::bs).map bv)[j]?=some u→w.cell? ((⟨g,off,none⟩:Addr).add j)=some u:=fun j u hu=>by
   rw[List.getElem?_map] at hu;obtain⟨y,hy,rfl⟩:=Option.map_eq_some_iff.1 hu;obtain⟨g',o',he,hc⟩:=hat j y hy;cases he;rw[add_plain];exact hc
  obtain⟨v',w',hrun,h1,h2,h3⟩:=Fq (P:=P) w t ty e i (.int .u8 0) 1 1 ht hi hz hsize hby rfl (by decide) (.slice none 0 0) 0 [] (World.ownsRow_nil ..) ⟨g,off,none⟩ (x::bs).length cap ((x::bs).map bv) (by simp) hnews (DI _) (by unfold maxLen;omega) (by omega);rw[Nat.zero_add,List.nil_append] at h1;obtain⟨gg,cp,cur,rfl,hg,q1,q2,q3,q4⟩:=Bq h1 (by simp);refine⟨_,w',hrun,⟨_,cp,rfl,q1,q2,fun j y hy=>⟨gg,0,rfl,?_⟩⟩,fun k hk=>?_,⟨h2.os,h2.tape,h2.output,h2.size,fun k hk _=>h2.block k hk (by simp[Value.ownBlock])⟩⟩
  · rw[Nat.zero_add]
    exact AH hg (Dx q4 (by rw[List.getElem?_map,hy];rfl))
  cases hk;refine⟨?_,Ad hg⟩;rcases h3 with h|h
  · cases h
  exact h gg rfl
theorem DK {w:World} {ops:Array Oper} {rest:List Oper} {o:Oper} {a:Act} {Q:Exit→Act→World→Prop} (hgd:o.guard=none) (s x:Operand) (t:TypeId)
 (ho:o.op=.call { callee:=.builtin .append,args:=#[s,x],argTypes:=#[t,t] }) (e:TypeId) (i:TypeInfo) (ht:P.underlying t=some (.slice e)) (hi:P.info? e=some i) (hz:i.zero=some (.int .u8 0)) (hsize:i.size=1) (hby:i.bytes=1)
 (hs:a.eval s=.slice none 0 0) (xv:Value) (hx:a.eval x=xv) (bs:List UInt8) (hb:Bytes w xv bs) (hlen:bs.length≤140737488355328)
 (h:∀v' w',Bytes w' v' bs→(∀k,v'.ownBlock=some k→w.heap.size≤k∧k<w'.heap.size)→Ch (fun _=>False) w w'→wpList P ops Q rest (a.put o.dst v') w'):wpList P ops Q (o::rest) a w :=
 wpList_plain hgd fun _ hK=>by
  obtain⟨v',w',hrun,r1,r2,r3⟩:=JU w t o.type e i ht hi hz hsize hby xv bs hb hlen;unfold Oper.wp;simp[execOp,ho,resolve,invoke,builtin,hs,hx,hrun,Result.andThen];exact hK _ _ (h v' w' r1 r2 r3)
end
end Go.Proofs.YtngbdbpofifimaaGreat
