/- Laws of the layers below. -/
import Derived.RangeFuncFrom
import Derived.Test.YtooijgcildbnlaaGreatQg28
import Derived.RangeFuncNested
import Derived.RangeFuncBound
import Derived.RangeFuncCalls
import Derived.RangeFuncLeaves
import Derived.OwnWalkIn
import Derived.TacticsInMore
import Derived.LoopNIn
import Derived.LoopIn
import Derived.Stop.RegionWithIn
import Derived.OrdersIn
import Derived.RangeFuncKeeps
import Derived.Shelf.Abstract
import Derived.Shelf.SlSortCmp.WholeK
import Derived.Shelf.SlSortCmp.NoneTotal
set_option maxHeartbeats 3200000
set_option maxRecDepth 100000
set_option linter.unusedVariables false
namespace Go.Proofs.YtooijgcildbnlaaGreat
open Go.RowKit
def SeqY {α:Type} (F:Fence) (n:Nat) (P:Program) (g:Nat) (lb:Array Value) (encs:α→Array Value) (Y:List α→α→World→Prop) (Kp:World→World→Prop) (S Sp:List α→Prop) (N:Nat) (w:World):Prop :=
 ∀(l:Nat) (J Jx:List α→World→Prop) (W:World),Below w.heap.size w W→AbidesFrom W.heap.size J→AbidesFrom W.heap.size Jx →
  (∀pre x W1,J pre W1→Y pre x W1→pre.length<N→YieldAt F (n-1) P l (encs x) W1 fun e W' =>
   (e=.returned (.bool true)∧J (pre ++ [x]) W'∧Kp W1 W')∨(e=.returned (.bool false)∧Jx (pre ++ [x]) W')) →
  J [] W→CallsIn F n P g (#[.func (.yield l) #[] #[]]++lb) W fun e W'=>(∃v,e=.returned v)∧((∃xs,S xs∧J xs W')∨(∃pre,Sp pre∧Jx pre W'))
variable {F : Fence} {n : Nat} {P : Program}
theorem NJ {α:Type} {g:Operand} {ps:Array Tmp} {assign body:Code} {Q:Exit→Act→World→Prop} {a:Act} {w:World}
 (hro:F.round=none) (h1:1≤n) {gf:Nat} {lb:Array Value} (hg:a.eval g=.func (.func gf) #[] lb) (hFg:F.fn gf) (eg:∀args w,(callFunc gf args).run P w=.ok (.enter gf args) w)
 {encs:α→Array Value} {Y:List α→α→World→Prop} {Kp:World→World→Prop} {S Sp:List α→Prop} {N:Nat} {w0:World} (hseq:SeqY F (n-1) P gf lb encs Y Kp S Sp N w0)
 (hKt:∀ {A B C:World},Kp A B→Kp B C→Kp A C) (hKb:∀(W:World) (l:Nat) (o o':Obj),w.heap.size≤l→W.heap[l]?=some o→o.isCells=false→o.isWalk=false→Kp W (W.putObj l o')) (hb0:Below w0.heap.size w0 w) (hps:∀x,(encs x).size=ps.size)
 (I:List α→World→Prop) (Ix:Code→List α→World→Prop) (hI:OwnFrom w.heap.size I) (hIx:∀c,OwnFrom w.heap.size (Ix c)) (h0:I [] w)
 (B:List α→α→Act→World→Prop) (hB:∀pre x a W l o o',B pre x a W→w.heap.size≤l→W.heap[l]?=some o→o.isCells=false→B pre x a (W.putObj l o'))
 (hassign:∀(l:Nat) (pre:List α) (x:α) (W:World),I pre W→Y pre x W→pre.length<N →
  assign.wpIn (F.inRound l) (n-1-1) P (Exit.then (fun a W'=>KeepsOthers W W'∧Kp W W'∧B pre x a W') (fun _ _ _=>False)) { tmps:=(ps.zip (encs x)).foldl (fun t (p,v)=>t.setIfInBounds p v) a.tmps,defers := [] } W)
 (hbody:∀(l:Nat) (pre:List α) (x:α) (a:Act) (W:World),B pre x a W→pre.length<N→body.wpIn (F.inRound l) (n-1-1) P (ownPostK Kp I Ix (pre ++ [x]) W) a W)
 (hdone:∀(D:Nat) (xs:List α) (W:World),w.heap.size≤D→S xs→I xs W→W.heap[D]?=some (.deferred (some []))→Q .normal { a with defers := { target:=.collected D,args:=#[] } :: a.defers } W)
 (hstop:∀(D:Nat) (c:Code) (pre:List α) (W:World),w.heap.size≤D→Sp pre→Ix c pre W→W.heap[D]?=some (.deferred (some []))→c.wpIn F n P Q { a with defers := { target:=.collected D,args:=#[] } :: a.defers } W) :
 (Code.rangeFunc g ps assign body).wpIn F n P Q a w:=by
 refine wpIn_rangeFunc fun fn hfn=>?_
 rw[hro];obtain⟨D,hD⟩:∃D,D=w.heap.size:=⟨_,rfl⟩
 obtain⟨lp,hlp⟩:∃lp:LoopState→Option Code→Loop,lp=fun st pe => { state:=st,pending:=pe,fn,tmps:=a.tmps,params:=ps,assign,body,defers:=w.heap.size }:=⟨_,rfl⟩
 obtain⟨W1,hW1⟩:∃W1,(w.alloc (.deferred (some []))).alloc (.loop (lp .ready none))=W1:=⟨_,rfl⟩
 have atL:W1.heap[D+1]?=some (.loop (lp .ready none)):=by
  rw[←hW1,hD];have:=World.alloc_heap_new (w.alloc (.deferred (some []))) (.loop (lp .ready none))
  rwa [World.size_alloc] at this
 have atD:W1.heap[D]?=some (.deferred (some [])):=by
  rw[←hW1,hD];exact(Below.heap_alloc _ _ _ (by simp)).trans (World.alloc_heap_new w _)
 have hI1:I [] W1:=by rw[←hW1];exact hI.alloc _ (hI.alloc _ h0)
 have hb1:Below w0.heap.size w0 W1:=by
  rw[←hW1];exact hb0.trans ((((Below.refl _ w).alloc (Nat.le_refl _) _).alloc (by simp) _).mono hb0.size)
 have hs1:W1.heap.size=D+2:=by rw[←hW1,hD];simp
 have turned:∀ {A:World} {row:Option Nat},(∀r,row=some r→W1.heap.size≤r∧∃o:Obj,A.heap[r]?=some o∧o.isWalk=true)→∀r,row=some r→w.heap.size≤r∧∃o:Obj,A.heap[r]?=some o∧o.isCells=false :=
  fun hr r e=>by obtain⟨hB,o,ho,hw⟩:=hr r e;exact⟨by omega,o,ho,Obj.not_cells_of_walk hw⟩
 refine⟨w.heap.size+1,[{ target:=.collected w.heap.size,args:=#[] }],W1, { target:=.fn (.func gf) lb,args:=#[.func (.yield (w.heap.size+1)) #[] #[]] },W1,gf,
  #[.func (.yield (w.heap.size+1)) #[] #[]]++lb,W1,?_,?_,?_,?_,fun _=>h1,?_⟩
 · rw[←hW1,hlp];exact run_enterLoop_outer _ _ _ _ _
 · simp only[resolve,hg]
   simp[go_sem]
 · intro f' hf'
   simp[Target.leads] at hf';subst hf';exact hFg
 · simp[invoke,go_sem,eg]
 rw[←hD] at hI hIx hB hKb hdone hstop ⊢
 let J:List α→World→Prop:=fun pre W=>I pre W∧W.heap[D+1]?=some (.loop (lp .ready none))∧W.heap[D]?=some (.deferred (some []))
 let Jx:List α→World→Prop:=fun pre W=>∃c,Ix c pre W∧W.heap[D+1]?=some (.loop (lp .done (some c)))∧W.heap[D]?=some (.deferred (some []))
 refine(hseq (D+1) J Jx W1 hb1 ?_ ?_ ?_ ⟨hI1,atL,atD⟩).mono ?_
 · intro s A B row hs hg' hr
   have ht:=turned (A:=A) hr;rw[←hD] at ht;exact⟨hI s A B row hs.1 hg' ht,(grownBy_keeps hg' (fun r e=>(hr r e).2) hs.2.1 rfl).trans hs.2.1,(grownBy_keeps hg' (fun r e=>(hr r e).2) hs.2.2 rfl).trans hs.2.2⟩
 · intro s A B row hs hg' hr
   have ht:=turned (A:=A) hr;rw[←hD] at ht;obtain⟨c,hc,hl,hk⟩:=hs;exact⟨c,hIx c s A B row hc hg' ht,(grownBy_keeps hg' (fun r e=>(hr r e).2) hl rfl).trans hl,(grownBy_keeps hg' (fun r e=>(hr r e).2) hk rfl).trans hk⟩
 · rintro pre x W ⟨hi,hl,hk⟩ hyx hlen
   have hlt:D+1<W.heap.size:=(Array.getElem?_eq_some_iff.1 hl).1;have hy:=run_yield (P:=P) (args:=encs x) hl (by rw[hlp];exact hps x);rw[hlp] at hy;refine⟨fn,_,assign,body,hy,roundIn_of_wpIn hfn (wpIn_mono (hassign (D+1) pre x W hi hyx hlen) ?_)⟩;rintro e0 a0 W0 hp0;obtain rfl:e0=.normal:=by cases e0<;>first|rfl|exact hp0.elim
   obtain⟨hko,hkp,hb⟩:=hp0;have hl0:=hko.same _ _ hl rfl;have hlt0:D+1<W0.heap.size:=(Array.getElem?_eq_some_iff.1 hl0).1;have hk0:=hko.same _ _ hk rfl;refine⟨_,run_beginRound hl0 (by rw[hlp]),?_⟩;obtain⟨W2,hW2⟩:∃W2,W2=W0.putObj (D+1) (.loop { lp .ready none with state:=.busy }):=⟨_,rfl⟩
   rw[←hW2];have hl2:W2.heap[D+1]?=some (.loop { lp .ready none with state:=.busy }):=by rw[hW2];exact World.putObj_heap_same hlt0
   have hk2:W2.heap[D]?=some (.deferred (some [])):=by rw[hW2];exact(World.putObj_heap_other (by omega)).trans hk0
   have hw2:Kp W W2:=by rw[hW2];exact hKt hkp (hKb _ _ _ _ (by omega) hl0 rfl rfl)
   have hb2:B pre x a0 W2:=by rw[hW2];exact hB pre x a0 W0 (D+1) _ _ hb (by omega) hl0 rfl
   have fin:∀(jump:Option Code) (W3:World),KeepsOthers W2 W3 →
    (Instr.endRound (D+1) jump).run P W3=.ok (.bool jump.isNone) (W3.putObj (D+1) (.loop (lp (if jump.isNone then .ready else .done) jump))) ∧
    W3.heap[D+1]?=some (.loop { lp .ready none with state:=.busy }) ∧
    (W3.putObj (D+1) (.loop (lp (if jump.isNone then .ready else .done) jump))).heap[D+1]?=some (.loop (lp (if jump.isNone then .ready else .done) jump)) ∧
    (W3.putObj (D+1) (.loop (lp (if jump.isNone then .ready else .done) jump))).heap[D]?=some (.deferred (some [])):=fun jump W3 hk3=>by
    have hl3:=hk3.same _ _ hl2 rfl;have:=run_endRound (P:=P) jump hl3;rw[hlp] at this ⊢;exact⟨this,by rw[hlp] at hl3;exact hl3,World.putObj_heap_same (Array.getElem?_eq_some_iff.1 hl3).1,(World.putObj_heap_other (by omega)).trans (hk3.same _ _ hk2 rfl)⟩
   refine wpIn_mono (hbody _ pre x a0 W2 hb2 hlen) ?_;rintro e a3 W3 hp;cases e with
   | normal =>
    obtain⟨hk3,hkp3,hi3⟩:=hp;obtain⟨hr,hl3,hl4,hk4⟩:=fin none W3 hk3;exact⟨_,_,hr,.inl ⟨rfl,⟨hI.putObj _ hi3 (by omega) hl3 rfl,hl4,hk4⟩,hKt (hKt hw2 hkp3) (hKb _ _ _ _ (by omega) hl3 rfl rfl)⟩⟩
   | ret =>
    obtain⟨hr,hl3,hl4,hk4⟩:=fin (some .ret) W3 hp.1;exact⟨_,_,hr,.inr ⟨rfl,.ret,(hIx _).putObj _ hp.2 (by omega) hl3 rfl,hl4,hk4⟩⟩
   | exit id =>
    obtain⟨hr,hl3,hl4,hk4⟩:=fin (some (.exit id)) W3 hp.1;exact⟨_,_,hr,.inr ⟨rfl,.exit id,(hIx _).putObj _ hp.2 (by omega) hl3 rfl,hl4,hk4⟩⟩
   | goto t =>
    obtain⟨hr,hl3,hl4,hk4⟩:=fin (some (.goto t)) W3 hp.1;exact⟨_,_,hr,.inr ⟨rfl,.goto t,(hIx _).putObj _ hp.2 (by omega) hl3 rfl,hl4,hk4⟩⟩
   | panic ch=>exact hp.elim
   | outgrown=>exact hp.elim
 rintro e W2 ⟨⟨v,rfl⟩,(⟨xs,hS,hi,hl,hk⟩|⟨pre,hSp,c,hi,hl,hk⟩)⟩
 · exact⟨none,_,by have:=run_endLoop (P:=P) hl (by rw[hlp];simp);rw[hlp] at this;exact this,hdone _ xs _ (Nat.le_refl _) hS (hI.putObj _ hi (by omega) hl rfl) ((World.putObj_heap_other (by omega)).trans hk)⟩
 exact⟨some c,_,by have:=run_endLoop (P:=P) hl (by rw[hlp];simp);rw[hlp] at this;exact this,hstop _ c pre _ (Nat.le_refl _) hSp ((hIx c).putObj _ hi (by omega) hl rfl) ((World.putObj_heap_other (by omega)).trans hk)⟩
end Go.Proofs.YtooijgcildbnlaaGreat
namespace Go.Proofs.YtooijgcildbnlaaGreat.Store
open Go.RowKit Go.Sort Go.Proofs.YtooijgcildbnlaaGreat.ShaW Go.Proofs.YtooijgcildbnlaaGreat.Path Go.Proofs.YtooijgcildbnlaaGreat.CI
section
variable {F : Fence} {n : Nat} {P : Program} {w : World} {ops : Array Oper} {rest : List Oper} {o : Oper} {a : Act} {Q : Exit→Act→World→Prop}
theorem Eu (hgd:o.guard=none) (ty:TypeId) (x:Operand) (ho:o.op=.load ty x)
 (g off:Nat) (hx:a.eval x=.pointer (some ⟨g,off,none⟩)) {t:TypeId} {cur:Array Value} {fr:Nat×Nat} {m:Nat} {d:TypeDesc} (hg:w.heap[g]?=some (.cells cur t fr)) (hu:P.underlying ty=some d)
 (hd:d.isRow=true) (hi:(P.info? ty).map (·.size)=some m) (hfit:off+m≤cur.size) (cs:Array Value) (hv:cur.extract off (off+m)=cs)
 (h:wpListIn F n P ops Q rest (a.put o.dst (.agg cs)) w):wpListIn F n P ops Q (o::rest) a w :=
 wpListIn_plain hgd fun _ hK=>by
  unfold Oper.wpIn;refine⟨?_,?_⟩
  · simp[Oper.about,ho]
  rw[Oper.semAt_plain F _ _ (by rw[ho];intro c hc';cases hc')];unfold execOp;simp only[ho,hx,Instr.loadAt,Instr.sureAddr,Sem.run_bind,Sem.run_pure,Result.andThen_ok,Bb w hg hu hd hi hfit,hv];exact hK _ _ h
theorem Eb (hgd:o.guard=none) (ty:TypeId) (x y:Operand) (ho:o.op=.store ty x y)
 (g off:Nat) (cells:Array Value) (hx:a.eval x=.pointer (some ⟨g,off,none⟩)) (hy:a.eval y=.agg cells) {t:TypeId} {cur:Array Value} (hg:w.heap[g]?=some (.cells cur t (0,0)))
 (hi:(P.info? ty).map (·.size)=some cells.size) (hfit:off+cells.size≤cur.size) (h1:∀v∈cells.toList,v.oneCell'=true)
 (new:Array Value) (hn:(splice cur.toList off cells.toList).toArray=new) (h:wpListIn F n P ops Q rest (a.put o.dst undef) (w.setRow g new)):wpListIn F n P ops Q (o::rest) a w :=
 wpListIn_plain hgd fun _ hK=>by
  unfold Oper.wpIn;refine⟨?_,?_⟩
  · simp[Oper.about,ho]
  rw[Oper.semAt_plain F _ _ (by rw[ho];intro c hc';cases hc')];unfold execOp;simp only[ho,hx,hy,Instr.storeAt,Instr.sureAddr,Sem.run_bind,Sem.run_pure,Result.andThen_ok,Gn w hg hi hfit h1,hn];exact hK _ _ h
theorem E7 (hgd:o.guard=none) (ty:TypeId) (ho:o.op=.alloc ty)
 (z:Value) (hz:(P.info? ty).bind (·.zero)=some z) (h:wpListIn F n P ops Q rest (a.put o.dst (.pointer (some ⟨w.heap.size,0,none⟩))) (w.alloc (.cells z.cells ty))):wpListIn F n P ops Q (o::rest) a w :=
 wpListIn_plain hgd fun _ hK=>by
  cases hq:P.info? ty with
  | none=>simp[hq] at hz
  | some i =>
   have hz':i.zero=some z:=by simpa[hq] using hz
   unfold Oper.wpIn;refine⟨?_,?_⟩
   · simp[Oper.about,ho]
   rw[Oper.semAt_plain F _ _ (by rw[ho];intro c hc';cases hc')];unfold execOp;simp[ho,Instr.alloc,zeroValue,typeInfo,hq,hz',newVar,newRow];exact hK _ _ h
end
section
variable {F : Fence} {n : Nat} {P : Program} {w w' : World} {o : Oper} {a : Act} {Q : Exit→Act→World→Prop} {K : Act→World→Prop} {y : Operand→Value}
theorem Cv {ops:Array Oper} (hgd:o.guard=none) (hab:∀f,o.about P w a.eval=some f→F.fn f) (hpl:Oper.semAt F.round a.eval o=execOp a.eval o) {v:Value} (hrun:(execOp a.eval o).run P w=.ok (.value v) w') (h:K (a.put o.dst v) w') :
 if Region.wanted o (yielded ops a.tmps)=true then Oper.wpIn F n P o a w K Q else (∀f,o.about P w a.eval=some f→F.fn f)∧K (a.put o.dst undef) w:=by
 rw[if_pos (by simp[Region.wanted,hgd])];unfold Oper.wpIn;refine⟨hab,?_⟩;rw[hpl,hrun];exact h
theorem Fh {ty:TypeId} {x:Operand} (ho:o.op=.load ty x) {p:Addr} (hx:a.eval x=.pointer (some p)) {v:Value} (h:(loadVar ty p).run P w=.ok v w):(execOp a.eval o).run P w=.ok (.value v) w:=by
 unfold execOp;simp only[ho,hx,Instr.loadAt,Instr.sureAddr,Sem.run_bind,Sem.run_pure,Result.andThen_ok,h]
theorem GY {s x:Operand} {t:TypeId} (ho:o.op=.call { callee:=.builtin .append,args:=#[s,x],argTypes:=#[t,t] }) {v:Value} (h:(Builtin.append_ #[t,t] o.type #[a.eval s,a.eval x]).run P w=.ok v w'):(execOp a.eval o).run P w=.ok (.value v) w':=by
 simp[execOp,ho,resolve,invoke,builtin,h,Result.andThen]
end
theorem Adds.grownBy {w w':World} (h:Adds w w'):w.grownBy w' none:=⟨h.os,h.tape,h.output,h.size,fun k hk _=>h.block k hk id⟩
theorem VP (ao:Option Addr) (n c:Nat) (w:World) :
 Calls Tryz.prog 81 #[.slice ao n c] w fun e w'=>e=.returned (.func (.func 166) #[] #[.pointer (some ⟨w.heap.size,0,none⟩)])∧w.alloc (.cells #[.slice ao n c] 33)=w':=by
 go_enter Tryz.func81,Tryz.ntmps81;go_wp2;go_ret;exact⟨rfl,rfl⟩
theorem PV {l:List Pr} {i:Nat} {x:Pr} (hx:l[i]?=some x):l.take (i+1)=l.take i ++ [x]:=by rw[List.take_add_one,hx];rfl
def Yv (n0:Nat) (out:List Pr) (pre:List Pr) (x:Pr) (W:World):Prop :=
 ∃y,out[pre.length]?=some y∧x.ent=y.ent∧x.key.length=32∧x.val.length≤1024∧BM W n0 x.vv x.val
theorem N0 {B:Nat} {w w':World} (h:Below B w w') {p:Addr} {v:Value} (hc:w.cell? p=some v) (hp:p.block<B):w'.cell? p=some v:=(h.cell (p:=p) hp).trans hc
end Go.Proofs.YtooijgcildbnlaaGreat.Store
namespace Go.Proofs.YtooijgcildbnlaaGreat
open Go.RowKit
section
variable {F : Fence} {n : Nat} {P : Program} {ops : Array Oper} {Q : Exit→Act→World→Prop} {md : Region.Mode} {S : World→Prop}
def WH (P:Program) (ops:Array Oper) (S:World→Prop) (o:Oper) (v:Value) (a:Act):Prop:=YieldsIf P ops S o v a∧∀w,o.about P w a.eval=none
def VJ (F:Fence) (n:Nat) (P:Program) (md:Region.Mode) (ops:Array Oper) (Q:Exit→Act→World→Prop) (S:World→Prop):Nat→Array Bool→Act→World→Prop
 | 0,listed,a,w=>Region.ready md ops listed = []∧Q .normal a w
 | f+1,listed,a,w=>Region.ready md ops listed ≠ []∧∀i∈Region.ready md ops listed,wpOpIn F n P ops Q i (fun a' w'=>S w'∧VJ F n P md ops Q S f (listed.setIfInBounds i true) a' w') a w
def Vb (ops:Array Oper):Bool:=ops.all fun o=>match o.op with | .defer _=>false|_=>true
def N5 (F:Fence) (n:Nat) (P:Program) (l:List Oper) (Q:Exit→Act→World→Prop) (S:World→Prop):List (Nat×Bool)→Act→World→Prop
 | [],a,w=>Q .normal a w
 | (i,false)::r,a,w=>∃o v,l[i]?=some o∧WH P l.toArray S o v a∧N5 F n P l Q S r (a.put o.dst v) w
 | (i,true)::r,a,w=>wpOpIn F n P l.toArray Q i (fun a' w'=>S w'∧N5 F n P l Q S r a' w') a w
def PX (md:Region.Mode) (ops:Array Oper):List (Nat×Bool)→Array Bool→Bool
 | [],listed=>decide (Region.ready md ops listed = [])
 | (i,false)::r,listed=>(Region.ready md ops listed).contains i&&Region.free md ops listed i&&PX md ops r (listed.setIfInBounds i true)
 | (i,true)::r,listed=>decide (Region.ready md ops listed = [i])&&PX md ops r (listed.setIfInBounds i true)
def X4 (md:Region.Mode) (ops:Array Oper) (p:List (Nat×Bool)):Bool:=Region.noSelect ops&&Vb ops&&decide (p.length=ops.size)&&PX md ops p (Array.replicate ops.size false)
end
end Go.Proofs.YtooijgcildbnlaaGreat
namespace Go.Proofs.YtooijgcildbnlaaGreat.Store
open Go.RowKit Go.Sort Go.Proofs.YtooijgcildbnlaaGreat.ShaW Go.Proofs.YtooijgcildbnlaaGreat.Path Go.Proofs.YtooijgcildbnlaaGreat.CI
section
variable {w : World} {s : Nat} {F : Nat→Prop} {σ : AD Nd} {root : Int} {t : Tr}
def WN (base:Nat) (w:World) (e:Bi) (q:Value):Prop:=∃(b:Nat) (v:Value) (out:List Pr),q=.func (.func 166) #[] #[.pointer (some ⟨b,0,none⟩)]∧base≤b∧w.heap[b]?=some (.cells #[v] 33 (0,0))∧Told base w v out∧out.map Pr.ent=e∧v.ownBlock≠some b∧∀x∈out,x.vv.ownBlock≠some b
theorem Told.WU {b b':Nat} {v:Value} {out:List Pr} (h:Told b w v out) (hb:b'≤b):Told b' w v out :=
 ⟨(show RowP _ _ _ _ from h.row).base (fun k hk=>Nat.le_trans hb (h.row.lt k hk).1),fun x hx=>by obtain⟨p,q,r⟩:=h.vals x hx;exact⟨p,q,fun k hk=>⟨Nat.le_trans hb (r k hk).1,(r k hk).2⟩⟩,h.apart⟩
theorem Vm (h:At w s F σ) (G:Good σ) (hr:Rep (sk σ) root 0 t) (h0:An σ root=0) (key:List UInt8) (hk:key.length=32) :
 Calls Tryz.prog 17 #[.pointer (some ⟨s,0,none⟩),.int .i64 root,.agg (AJ key)] w fun e w'=>∃q,e=.returned q∧WN w.heap.size w' (t.from key) q∧Adds w w':=by
 obtain⟨K,hK⟩:∃K,K=AJ key:=⟨_,rfl⟩
 have hKs:K.size=32:=by rw[hK,AY,hk]
 have ha:Adds w (w.alloc (.cells K 24)):=(Ch.refl _ _).alloc _;have hrt:=Store.IV (h.adds ha) root;rw[h0] at hrt;have hrk:=fun w1 (a:Adds w w1)=>Vk (h.adds a) G hr key hk (-1)
 rw[show t.some key (-1)=t.from key by unfold Tr.some;rw[if_pos (by omega)]] at hrk;rw[←hK] at hrk ⊢;have HR:=Lib.hid hrt;have HS:=Lib.hid hrk;have HK:=Lib.hid hKs;have HA:=Lib.hid ha;clear h G hr h0 hrt hrk hK hKs hk ha;go_enter Tryz.func17,Tryz.ntmps17;go_wp2_with fail;refine HR.out.mono ?_;rintro e w1 ⟨rfl,a1⟩;have A1:=(hIq (HA.out.trans a1 (fun _=>fEq)) (a1.row (V1 w K) id))
 clear a1
 go_wp2_with (first
  | fail
  | ((with_reducible show zOq (.load 24 _));refine AK rfl 24 _ rfl w.heap.size 0 rfl A1.out.2 Tryz.underlying24 rfl Au (by rw[HK.out];omega) K (by have:=HK.out;simp[←this]) ?_))
 refine(HS.out _ A1.out.1).mono ?_;rintro e w2 ⟨v,out,rfl,ht,he,a2⟩;obtain⟨vo,vc,rfl⟩:=ht.row.form;have A2:=(hIq ht (aIq he (aIq (A1.out.1.trans a2 (fun _=>fEq)) A1.out.1.size)))
 obtain⟨n,hn⟩:∃n,n=out.length:=⟨_,rfl⟩
 have HN:=Lib.hid hn;rw[←hn];clear a2 ht he hn;go_wp2_with fail;refine(VP vo n vc w2).mono ?_;rintro e w3 ⟨rfl,hw3⟩;have a3:Adds w2 w3:=by rw[←hw3];exact(Ch.refl _ _).alloc _
 have r3:w3.heap[w2.heap.size]?=some (.cells #[.slice vo n vc] 33 (0,0)):=by rw[←hw3];exact heap_alloc_new _ _
 have A3:=(hIq a3 r3)
 clear hw3 a3 r3;go_wp2;go_ret;have hle:=A2.out.2.2.1.size;refine⟨_,rfl,⟨w2.heap.size,_,out,rfl,hle,A3.out.2,?_,A2.out.2.1,?_,?_⟩,A2.out.2.2.1.trans A3.out.1 (fun _=>fEq)⟩
 · have:=(A2.out.1.WU A2.out.2.2.2).adds A3.out.1
   rwa [←HN.out] at this
 · intro e
   have:=(A2.out.1.row.lt _ (by rw[←HN.out];exact e)).2;omega
 intro x hx e;have:=((A2.out.1.vals x hx).2.2 _ e).2.1;omega
theorem Ws {S:Value} {R:Value→World→Prop} (h:Calls Tryz.prog 17 #[S,.int .i64 root,.agg (AJ (List.replicate 32 0))] w fun e w'=>∃q,e=.returned q∧R q w') (hS:∃p,S=.pointer p) :
 Calls Tryz.prog 16 #[S,.int .i64 root] w fun e w'=>∃q,e=.returned q∧R q w':=by
 obtain⟨p,rfl⟩:=hS;have hzb:Tryz.prog.built 24 []=some (AJ (List.replicate 32 0)):=by kernel_rfl
 obtain⟨Z,hZ⟩:∃Z,Z=AJ (List.replicate 32 0):=⟨_,rfl⟩
 rw[←hZ] at hzb h;have H:=Lib.hid h;have HZ:=Lib.hid hzb;clear h hZ hzb;go_enter Tryz.func16,Tryz.ntmps16
 go_wp2_with (first
  | fail
  | ((with_reducible show zOq (.build 24 _));refine BP rfl 24 rfl Z HZ.out ?_))
 refine H.out.mono ?_;rintro e w1 ⟨q,rfl,hR⟩;have HR:=Lib.hid hR;clear hR;go_wp2;go_ret;exact⟨_,rfl,HR.out⟩
end
end Go.Proofs.YtooijgcildbnlaaGreat.Store
namespace Go.Proofs.YtooijgcildbnlaaGreat.Store
open Go.RowKit Go.Shelf Go.Sort Go.Proofs.YtooijgcildbnlaaGreat.ShaW Go.Proofs.YtooijgcildbnlaaGreat.Path Go.Proofs.YtooijgcildbnlaaGreat.CI
attribute [local go_sem] Oper.semAt_some
theorem OI {F:Nat→Prop} {W W':World} (h:Ch F W W') (hF:∀k,F k→∃cur ty fr,W.heap[k]?=some (.cells cur ty fr)):KeepsOthers W W' :=
 ⟨h.size,fun k o hk ho=>by
  by_cases hf:F k
  · obtain⟨cur,ty,fr,hc⟩:=hF k hf
    rw[hc] at hk;cases hk;cases ho
  exact(h.block k (Ad hk) hf).trans hk⟩
theorem BM.put {W:World} {n0 l:Nat} {v:Value} {bs:List UInt8} {o o':Obj} (h:BM W n0 v bs) (hl:W.heap[l]?=some o) (ho:o.isCells=false):BM (W.putObj l o') n0 v bs:=by
 rcases h with h|⟨g,cp,all,rfl,h1,h2,h3⟩
 · exact .inl h
 refine .inr ⟨g,cp,all,rfl,h1,?_,h3⟩;by_cases e:l=g
 · subst e
   rw[h2] at hl;cases hl;cases ho
 exact(World.putObj_heap_other (Ne.symm e)).trans h2
theorem VS {α:Type} (t:Array α) (p1 p2:Nat) (v1 v2:α):(#[p1,p2].zip #[v1,v2]).foldl (fun t (p,v)=>t.setIfInBounds p v) t=(t.setIfInBounds p1 v1).setIfInBounds p2 v2:=by
 rw[show #[p1,p2].zip #[v1,v2]=#[(p1,v1),(p2,v2)] by simp];rfl
structure GoI (w:World) (wv:Value) (stop:Int) (m:Nat) (W:World):Prop where
 adds:Adds w W
 want:W.heap[w.heap.size]?=some (.cells #[wv] 33 (0,0))
 stop:W.heap[w.heap.size+1]?=some (.cells #[.int .i64 stop] 3 (0,0))
 ans:W.heap[w.heap.size+2]?=some (.cells #[.bool false] 4 (0,0))
 cnt:W.heap[w.heap.size+3]?=some (.cells #[.int .i64 (m:Nat)] 3 (0,0))
def GoX (w:World) (c:Code) (W:World):Prop:=c=.ret∧Adds w W∧W.heap[w.heap.size+2]?=some (.cells #[.bool true] 4 (0,0))
def Ve (w:World) (q wv:Value) (stop:Int) (p:Nat) (k:Array Value) (v:Value):Array Value :=
 #[q,wv,.int .i64 stop,undef,.pointer (some ⟨w.heap.size,0,none⟩),.pointer (some ⟨w.heap.size+1,0,none⟩),.pointer (some ⟨w.heap.size+1+1,0,none⟩),.pointer (some ⟨w.heap.size+1+1+1,0,none⟩),.pointer (some ⟨p,0,none⟩),v,q,.bool false,q,.agg k,v,
  undef,undef,undef,undef,undef,undef,undef,undef,undef,undef,undef,undef,undef,undef,undef,undef,undef,undef,undef,undef,undef,undef,undef,undef,undef,undef,undef,undef,undef,undef,undef,undef,undef,undef]
structure GoB (w:World) (q wv:Value) (stop:Int) (out:List Pr) (pre:List Pr) (x:Pr) (a:Act) (p:Nat) (W:World):Prop where
 act:a = { tmps:=Ve w q wv stop p (AJ x.key) x.vv,defers := [] }
 inv:GoI w wv stop pre.length W
 yv:Yv w.heap.size out pre x W
 box:W.heap[p]?=some (.cells (AJ x.key) 24 (0,0))
 far:w.heap.size+4≤p
theorem Yv.put {n0 l:Nat} {out pre:List Pr} {x:Pr} {W:World} {o o':Obj} (h:Yv n0 out pre x W) (hl:W.heap[l]?=some o) (ho:o.isCells=false):Yv n0 out pre x (W.putObj l o'):=by
 obtain⟨y,h1,h2,h3,h4,h5⟩:=h;exact⟨y,h1,h2,h3,h4,h5.put hl ho⟩
theorem Yv.Am {n0:Nat} {out pre:List Pr} {x:Pr} {W W':World} (h:Yv n0 out pre x W) (a:Adds W W'):Yv n0 out pre x W':=by
 obtain⟨y,h1,h2,h3,h4,h5⟩:=h;exact⟨y,h1,h2,h3,h4,h5.Am a (fun _ _ h=>h)⟩
end Go.Proofs.YtooijgcildbnlaaGreat.Store
namespace Go.Proofs.YtooijgcildbnlaaGreat
open Go.Shelf
def Kw:Go.Shelf.Ren:=⟨fun|6=>273|15=>288|14=>298|28=>310|29=>311|20=>325|21=>326|22=>327|23=>328|24=>329|25=>330|26=>331|27=>332|46=>344|47=>335|48=>336|49=>345|50=>346|57=>349|n=>n,fun|22=>33|24=>141|25=>361|3=>3|39=>358|0=>0|53=>349|55=>356|4=>4|46=>390|45=>389|50=>296|5=>5|9=>9|66=>410|70=>414|76=>421|77=>244|n=>n,fun|n=>n⟩
theorem LZ:Go.Proofs.SlLaysF0.n6 Tryz.prog Kw := {
 mixed:=by kernel_rfl
 f6:=⟨Tryz.f273.name,by decide,Tryz.func273.trans (congrArg some (by kernel_rfl))⟩
 f14:=⟨Tryz.f298.name,by decide,Tryz.func298.trans (congrArg some (by kernel_rfl))⟩
 f15:=Tryz.func288.trans (congrArg some (by kernel_rfl))
 f20:=⟨Tryz.f325.name,by decide,Tryz.func325.trans (congrArg some (by kernel_rfl))⟩
 f21:=⟨Tryz.f326.name,by decide,Tryz.func326.trans (congrArg some (by kernel_rfl))⟩
 f22:=⟨Tryz.f327.name,by decide,Tryz.func327.trans (congrArg some (by kernel_rfl))⟩
 f23:=⟨Tryz.f328.name,by decide,Tryz.func328.trans (congrArg some (by kernel_rfl))⟩
 f24:=⟨Tryz.f329.name,by decide,Tryz.func329.trans (congrArg some (by kernel_rfl))⟩
 f25:=⟨Tryz.f330.name,by decide,Tryz.func330.trans (congrArg some (by kernel_rfl))⟩
 f26:=⟨Tryz.f331.name,by decide,Tryz.func331.trans (congrArg some (by kernel_rfl))⟩
 f27:=⟨Tryz.f332.name,by decide,Tryz.func332.trans (congrArg some (by kernel_rfl))⟩
 f28:=Tryz.func310.trans (congrArg some (by kernel_rfl))
 f29:=Tryz.func311.trans (congrArg some (by kernel_rfl))
 f46:=⟨Tryz.f344.name,by decide,Tryz.func344.trans (congrArg some (by kernel_rfl))⟩
 f47:=Tryz.func335.trans (congrArg some (by kernel_rfl))
 f48:=Tryz.func336.trans (congrArg some (by kernel_rfl))
 f49:=⟨Tryz.f345.name,by decide,Tryz.func345.trans (congrArg some (by kernel_rfl))⟩
 f50:=⟨Tryz.f346.name,by decide,Tryz.func346.trans (congrArg some (by kernel_rfl))⟩
 f57:=⟨Tryz.f349.name,by decide,Tryz.func349.trans (congrArg some (by kernel_rfl))⟩
 t0:=Tryz.underlying0
 a0:=Tryz.isAgg0
 z0:=Tryz.sizeOf0
 v0:=Tryz.zeroValue0
 t3:=Tryz.underlying3
 a3:=Tryz.isAgg3
 z3:=Tryz.sizeOf3
 v3:=Tryz.zeroValue3
 t4:=Tryz.underlying4
 a4:=Tryz.isAgg4
 z4:=Tryz.sizeOf4
 v4:=Tryz.zeroValue4
 t5:=Tryz.underlying5
 a5:=Tryz.isAgg5
 z5:=Tryz.sizeOf5
 v5:=Tryz.zeroValue5
 t9:=Tryz.underlying9
 a9:=Tryz.isAgg9
 z9:=Tryz.sizeOf9
 v9:=Tryz.zeroValue9
 t22:=Tryz.underlying33
 a22:=Tryz.isAgg33
 z22:=Tryz.sizeOf33
 v22:=Tryz.zeroValue33
 t25:=Tryz.underlying361
 a25:=Tryz.isAgg361
 z25:=Tryz.sizeOf361
 v25:=Tryz.zeroValue361
 t39:=Tryz.underlying358
 a39:=Tryz.isAgg358
 z39:=Tryz.sizeOf358
 v39:=Tryz.zeroValue358
 t45:=Tryz.underlying389
 a45:=Tryz.isAgg389
 z45:=Tryz.sizeOf389
 v45:=Tryz.zeroValue389
 t46:=Tryz.underlying390
 a46:=Tryz.isAgg390
 z46:=Tryz.sizeOf390
 v46:=Tryz.zeroValue390
 t50:=Tryz.underlying296
 a50:=Tryz.isAgg296
 z50:=Tryz.sizeOf296
 v50:=Tryz.zeroValue296
 t53:=Tryz.underlying349
 a53:=Tryz.isAgg349
 z53:=Tryz.sizeOf349
 v53:=Tryz.zeroValue349
 t55:=Tryz.underlying356
 a55:=Tryz.isAgg356
 z55:=Tryz.sizeOf356
 v55:=Tryz.zeroValue356
 t66:=Tryz.underlying410
 a66:=Tryz.isAgg410
 z66:=Tryz.sizeOf410
 v66:=Tryz.zeroValue410
 t70:=Tryz.underlying414
 a70:=Tryz.isAgg414
 z70:=Tryz.sizeOf414
 v70:=Tryz.zeroValue414
 t76:=Tryz.underlying421
 a76:=Tryz.isAgg421
 z76:=Tryz.sizeOf421
 v76:=Tryz.zeroValue421
 t77:=Tryz.underlying244
 a77:=Tryz.isAgg244
 z77:=Tryz.sizeOf244
 v77:=Tryz.zeroValue244 }
end Go.Proofs.YtooijgcildbnlaaGreat
namespace Go.Proofs.YtooijgcildbnlaaGreat.CI
open Go.RowKit Go.Sort Go.Proofs.YtooijgcildbnlaaGreat.ShaW Go.Proofs.YtooijgcildbnlaaGreat.Path Go.Proofs.YtooijgcildbnlaaGreat.Store
structure PrK where
 p:Pr
 len:p.key.length=32
 one:p.vv.oneCell'=true
instance:Inhabited PrK:=⟨⟨⟨List.replicate 32 0,.slice none 0 0,[]⟩,rfl,rfl⟩⟩
def E5 (x:PrK):List Value:=x.p.cells.toList
theorem IY (x:PrK):(E5 x).length=33:=by rw[E5,Array.length_toList];exact Pr.size x.len
theorem TJ (x:PrK):∀v∈E5 x,v.oneCell'=true:=fun v hv=>by
 unfold E5 at hv;rw[Pr.list] at hv;rcases List.mem_append.1 hv with h|h
 · exact Cz _ v h
 simp at h;rw[h];exact x.one
def RL (x y:PrK):Int:=Lib.compareBytes x.p.key y.p.key
theorem ltP (x y:PrK):ltOf RL x y=decide (Lib.compareBytes x.p.key y.p.key<0):=rfl
theorem Yc:SWO (ltOf RL) where
 irrefl x:=by rw[ltP,Fg];rfl
 trans x y z h1 h2:=by
  rw[ltP] at *;exact decide_eq_true (F8 _ _ _ (of_decide_eq_true h1) (of_decide_eq_true h2))
 ntrans x y z h1 h2:=by
  rw[ltP] at *;exact decide_eq_false (Ft _ _ _ (of_decide_eq_false h1) (of_decide_eq_false h2))
theorem Oq (w:World) (os:Array Obj) (q:Nat):(grow w os).drewN q=grow (w.drewN q) os:=rfl
theorem O4 (x y:PrK) (W:World):Calls Tryz.prog 274 #[.agg (E5 x).toArray,.agg (E5 y).toArray] W fun e w'=>e=.returned (.int .i64 (RL x y))∧∃q os,w'=grow (W.drewN q) os:=by
 obtain⟨A,hA⟩:∃A,A=x.p.cells:=⟨_,rfl⟩
 obtain⟨B,hB⟩:∃B,B=y.p.cells:=⟨_,rfl⟩
 have hc:=KD x.p.key y.p.key x.len y.len ((W.alloc (.cells A 141)).alloc (.cells B 141));have ka:=Pr.Bh x.len;have kb:=Pr.Bh y.len;have sa:=Pr.size x.len;have sb:=Pr.size y.len;unfold E5 RL;rw[Array.toArray_toList,Array.toArray_toList];rw[←hA] at ka sa ⊢;rw[←hB] at kb sb ⊢;obtain⟨KA,hKA⟩:∃K,K=AJ x.p.key:=⟨_,rfl⟩
 obtain⟨KB,hKB⟩:∃K,K=AJ y.p.key:=⟨_,rfl⟩
 rw[←hKA] at ka hc;rw[←hKB] at kb hc;generalize Lib.compareBytes x.p.key y.p.key=r at hc ⊢;have g1:((W.alloc (.cells A 141)).alloc (.cells B 141)).heap[W.heap.size]?=some (.cells A 141 (0,0)):=AM (heap_alloc_new _ _) _
 have g2:((W.alloc (.cells A 141)).alloc (.cells B 141)).heap[W.heap.size+1]?=some (.cells B 141 (0,0)):=by
  have:=heap_alloc_new (W.alloc (.cells A 141)) (.cells B 141);simpa using this
 have G1:=Lib.hid g1;have G2:=Lib.hid g2;have HC:=Lib.hid hc;have HK:=(hIq ka kb)
 have HS:=(hIq sa sb)
 clear hA hB hKA hKB g1 g2 hc ka kb sa sb;go_enter Tryz.func274,Tryz.ntmps274
 go_wp2_with (first
  | fail
  | ((with_reducible show zOq (.load 24 _));refine AK rfl 24 _ rfl W.heap.size 0 rfl G1.out Tryz.underlying24 rfl Au (by rw[HS.out.1];omega) KA HK.out.1 ?_)
  | ((with_reducible show zOq (.load 24 _));refine AK rfl 24 _ rfl (W.heap.size+1) 0 rfl G2.out Tryz.underlying24 rfl Au (by rw[HS.out.2];omega) KB HK.out.2 ?_))
 refine HC.out.mono ?_;rintro e w1 ⟨rfl,q,os,rfl⟩;go_wp2;go_ret;refine⟨rfl,q, #[.cells A 141,.cells B 141]++os,?_⟩;rw[alloc_eq_grow,alloc_eq_grow,grow_grow,Oq,grow_grow];rfl
theorem U1 (blk off size:Nat) (w:World):CmpLays Tryz.prog 274 #[] E5 33 RL blk off size w:=fun _ _ _ _ x y=>O4 x y _
theorem N4 {w:World} {g:Nat} {t:TypeId} {cur:Array Value} {d:Array PrK} (hg:w.heap[g]?=some (.cells cur t (0,0))) (hx:∀i x,d[i]?=some x→i*33+33≤cur.size∧cur.extract (i*33) (i*33+33)=x.p.cells):HoldsK E5 33 w g 0 d:=by
 intro j hj;rw[size_flatK] at hj;have hi:j / 33<d.size:=by omega
 obtain⟨h1,h2⟩:=hx (j / 33) _ (Array.getElem?_eq_getElem hi);refine⟨?_,Ao hg _⟩;rw[get_flatK E5 33 d j hj];have hm:j % 33<33:=Nat.mod_lt _ (by omega);have hs:=Pr.size (d[j / 33]).len
 have e1:cur[j]?=some (E5 d[j / 33]!)[j % 33]!:=by
  have e2:(cur.extract (j / 33*33) (j / 33*33+33))[j % 33]?=cur[j]?:=by
   rw[Array.getElem?_extract,if_pos (by omega)]
   congr 1
   omega
  rw[←e2,h2,getElem!_pos d (j / 33) hi];unfold E5;rw[getElem!_pos _ _ (by rw[Array.length_toList,hs];exact hm),Array.getElem?_eq_getElem (by rw[hs];exact hm)];simp
 rw[Nat.zero_add];exact AG hg e1
theorem OD {w:World} {g:Nat} {d:Array PrK} (h:HoldsK E5 33 w g 0 d) {i:Nat} {x:PrK} (hx:d[i]?=some x):D7 w g (0+i*33) x.p.cells:=by
 have hi:=(Array.getElem?_eq_some_iff.1 hx).1;have hd:d[i]! = x:=by rw[getElem!_pos d i hi];exact(Array.getElem?_eq_some_iff.1 hx).2
 have:=D7.Na (w:=w) (g:=g) (o:=0+i*33) (m:=33) (cs:=E5 x) (by omega) (IY x) (fun c hc=>by
  have h1:=h (i*33+c) (by rw[size_flatK];omega);rw[get_flatK E5 33 d _ (by omega),show(i*33+c) / 33=i by omega,show(i*33+c) % 33=c by omega,hd] at h1;rw[show 0+i*33+c=0+(i*33+c) by omega];rw[h1.1,List.getElem?_eq_getElem (by rw[IY];exact hc),getElem!_pos _ _ (by rw[IY];exact hc)];rfl)
 rwa [E5,Array.toArray_toList] at this
theorem RJ (w:World) (g n:Nat) (d':Array PrK) (os:Array Obj):Ch (fun k=>k=g) w (sortWorldK E5 33 w g 0 n d' os):=by
 unfold sortWorldK grow putRowK Go.Sort.putRow Go.Sort.mapBlock Go.Sort.ahead;refine⟨rfl,rfl,rfl,by simp,fun k hk hn=>?_⟩;simp only[Array.getElem?_append,Array.size_modify,hk,if_true,Array.getElem?_modify];rw[if_neg (fun e=>hn e.symm)]
theorem WD {w:World} {g cap:Nat} {d:Array PrK} (hH:HoldsK E5 33 w g 0 d) (hg:g<w.heap.size) (hn:d.size<4611686018427387904) :
 Calls Tryz.prog 273 #[.slice (some ⟨g,0,none⟩) d.size cap,.func (.func 274) #[] #[]] w fun e w'=>e=.returned (.tuple #[]) ∧
  ∃d':Array PrK,d'.size=d.size∧d'.toList.Perm d.toList∧d'.toList.Pairwise (fun x y=>¬Lib.compareBytes y.p.key x.p.key<0)∧HoldsK E5 33 w' g 0 d'∧Ch (fun k=>k=g) w w':=by
 have eg:∀args w,(callFunc 274 args).run Tryz.prog w=.ok (.enter 274 args) w:=enters_of Tryz.func274 (by kernel_rfl) rfl;have hcon:=AnyQ.slices_SortFunc LZ 33 Tryz.isAgg141 Tryz.sizeOf141 E5 IY TJ RL Yc 274 #[] g 0 cap d w eg (U1 g 0 d.size w) hH hg hn;refine Calls.mono hcon fun e w' ⟨he,d',n,os,hp,hs,hw⟩=>⟨he,d',hp.1,?_,?_,?_,?_⟩
 · have:=hp.2.2
   rwa [show d'.extract 0 d.size=d' by rw[←hp.1,Array.extract_size],Array.extract_size] at this
 · rw[List.pairwise_iff_getElem]
   intro i j hi hj hij;have hi':i<d'.size:=by simpa using hi
   have hj':j<d'.size:=by simpa using hj
   have:=hs i j (Nat.zero_le _) hij (by rw[←hp.1];exact hj');rw[ltP,getElem!_pos d' i hi',getElem!_pos d' j hj'] at this;simpa using this
 · rw[hw]
   exact holdsK_sortWorldK_c E5 33 w g 0 d d' n os hH hg hp.1
 rw[hw];exact RJ w g n d' os
end Go.Proofs.YtooijgcildbnlaaGreat.CI
