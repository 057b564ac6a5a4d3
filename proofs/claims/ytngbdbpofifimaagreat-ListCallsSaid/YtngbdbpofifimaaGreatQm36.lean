/- Laws of the layers below. -/
import Derived.RangeFuncFrom
import Derived.Test.YtngbdbpofifimaaGreatQm24
import Derived.RangeFuncNested
import Derived.RangeFuncBound
import Derived.RangeFuncCalls
import Derived.RangeFuncLeaves
import Derived.OwnWalkIn
import Derived.TacticsInMore
import Derived.LoopNIn
import Derived.LoopIn
import Derived.Stop.RegionWithIn
import Derived.OrdersIn
set_option maxHeartbeats 3200000
set_option maxRecDepth 100000
set_option linter.unusedVariables false
namespace Go.Proofs.YtngbdbpofifimaaGreat
open Go.RowKit
def SeqY {α:Type} (F:Fence) (n:Nat) (P:Program) (g:Nat) (lb:Array Value) (encs:α→Array Value) (Y:List α→α→World→Prop) (Kp:World→World→Prop) (S Sp:List α→Prop) (N:Nat) (w:World):Prop :=
 ∀(l:Nat) (J Jx:List α→World→Prop) (W:World),Below w.heap.size w W→AbidesFrom W.heap.size J→AbidesFrom W.heap.size Jx →
  (∀pre x W1,J pre W1→Y pre x W1→pre.length<N→YieldAt F (n-1) P l (encs x) W1 fun e W' =>
   (e=.returned (.bool true)∧J (pre ++ [x]) W'∧Kp W1 W')∨(e=.returned (.bool false)∧Jx (pre ++ [x]) W')) →
  J [] W→CallsIn F n P g (#[.func (.yield l) #[] #[]]++lb) W fun e W'=>(∃v,e=.returned v)∧((∃xs,S xs∧J xs W')∨(∃pre,Sp pre∧Jx pre W'))
variable {F : Fence} {n : Nat} {P : Program}
theorem N7 {α:Type} {g:Operand} {ps:Array Tmp} {assign body:Code} {Q:Exit→Act→World→Prop} {a:Act} {w:World}
 (hro:F.round=none) (h1:1≤n) {gf:Nat} {lb:Array Value} (hg:a.eval g=.func (.func gf) #[] lb) (hFg:F.fn gf) (eg:∀args w,(callFunc gf args).run P w=.ok (.enter gf args) w)
 {encs:α→Array Value} {Y:List α→α→World→Prop} {Kp:World→World→Prop} {S Sp:List α→Prop} {N:Nat} {w0:World} (hseq:SeqY F (n-1) P gf lb encs Y Kp S Sp N w0)
 (hKt:∀ {A B C:World},Kp A B→Kp B C→Kp A C) (hKb:∀(W:World) (l:Nat) (o o':Obj),w.heap.size≤l→W.heap[l]?=some o→o.isCells=false→o.isWalk=false→Kp W (W.putObj l o')) (hb0:Below w0.heap.size w0 w) (hps:∀x,(encs x).size=ps.size)
 (I:List α→World→Prop) (Ix:Code→List α→World→Prop) (hI:OwnFrom w.heap.size I) (hIx:∀c,OwnFrom w.heap.size (Ix c)) (h0:I [] w)
 (B:List α→α→Act→World→Prop) (hB:∀pre x a W l o o',B pre x a W→w.heap.size≤l→W.heap[l]?=some o→o.isCells=false→B pre x a (W.putObj l o'))
 (hassign:∀(l:Nat) (pre:List α) (x:α) (W:World),I pre W→Y pre x W→pre.length<N →
  assign.wpIn (F.inRound l) (n-1-1) P (Exit.then (fun a W'=>KeepsOthers W W'∧Kp W W'∧B pre x a W') (fun _ _ _=>False)) { tmps:=(ps.zip (encs x)).foldl (fun t (p,v)=>t.setIfInBounds p v) a.tmps,defers := [] } W)
 (hbody:∀(l:Nat) (pre:List α) (x:α) (a:Act) (W:World),B pre x a W→pre.length<N→body.wpIn (F.inRound l) (n-1-1) P (ownPostK Kp I Ix (pre ++ [x]) W) a W)
 (hdone:∀(D:Nat) (xs:List α) (W:World),w.heap.size≤D→S xs→I xs W→W.heap[D]?=some (.deferred (some []))→Q .normal { a with defers := { target:=.collected D,args:=#[] } :: a.defers } W)
 (hstop:∀(D:Nat) (c:Code) (pre:List α) (W:World),w.heap.size≤D→Sp pre→Ix c pre W→W.heap[D]?=some (.deferred (some []))→c.wpIn F n P Q { a with defers := { target:=.collected D,args:=#[] } :: a.defers } W) :
 (Code.rangeFunc g ps assign body).wpIn F n P Q a w:=by
 refine wpIn_rangeFunc fun fn hfn=>?_
 rw[hro];obtain⟨D,hD⟩:∃D,D=w.heap.size:=⟨_,rfl⟩
 obtain⟨lp,hlp⟩:∃lp:LoopState→Option Code→Loop,lp=fun st pe => { state:=st,pending:=pe,fn,tmps:=a.tmps,params:=ps,assign,body,defers:=w.heap.size }:=⟨_,rfl⟩
 obtain⟨W1,hW1⟩:∃W1,(w.alloc (.deferred (some []))).alloc (.loop (lp .ready none))=W1:=⟨_,rfl⟩
 have atL:W1.heap[D+1]?=some (.loop (lp .ready none)):=by
  rw[←hW1,hD];have:=World.alloc_heap_new (w.alloc (.deferred (some []))) (.loop (lp .ready none))
  rwa [World.size_alloc] at this
 have atD:W1.heap[D]?=some (.deferred (some [])):=by
  rw[←hW1,hD];exact(Below.heap_alloc _ _ _ (by simp)).trans (World.alloc_heap_new w _)
 have hI1:I [] W1:=by rw[←hW1];exact hI.alloc _ (hI.alloc _ h0)
 have hb1:Below w0.heap.size w0 W1:=by
  rw[←hW1];exact hb0.trans ((((Below.refl _ w).alloc (Nat.le_refl _) _).alloc (by simp) _).mono hb0.size)
 have hs1:W1.heap.size=D+2:=by rw[←hW1,hD];simp
 have turned:∀ {A:World} {row:Option Nat},(∀r,row=some r→W1.heap.size≤r∧∃o:Obj,A.heap[r]?=some o∧o.isWalk=true)→∀r,row=some r→w.heap.size≤r∧∃o:Obj,A.heap[r]?=some o∧o.isCells=false :=
  fun hr r e=>by obtain⟨hB,o,ho,hw⟩:=hr r e;exact⟨by omega,o,ho,Obj.not_cells_of_walk hw⟩
 refine⟨w.heap.size+1,[{ target:=.collected w.heap.size,args:=#[] }],W1, { target:=.fn (.func gf) lb,args:=#[.func (.yield (w.heap.size+1)) #[] #[]] },W1,gf,
  #[.func (.yield (w.heap.size+1)) #[] #[]]++lb,W1,?_,?_,?_,?_,fun _=>h1,?_⟩
 · rw[←hW1,hlp];exact run_enterLoop_outer _ _ _ _ _
 · simp only[resolve,hg]
   simp[go_sem]
 · intro f' hf'
   simp[Target.leads] at hf';subst hf';exact hFg
 · simp[invoke,go_sem,eg]
 rw[←hD] at hI hIx hB hKb hdone hstop ⊢
 let J:List α→World→Prop:=fun pre W=>I pre W∧W.heap[D+1]?=some (.loop (lp .ready none))∧W.heap[D]?=some (.deferred (some []))
 let Jx:List α→World→Prop:=fun pre W=>∃c,Ix c pre W∧W.heap[D+1]?=some (.loop (lp .done (some c)))∧W.heap[D]?=some (.deferred (some []))
 refine(hseq (D+1) J Jx W1 hb1 ?_ ?_ ?_ ⟨hI1,atL,atD⟩).mono ?_
 · intro s A B row hs hg' hr
   have ht:=turned (A:=A) hr;rw[←hD] at ht;exact⟨hI s A B row hs.1 hg' ht,(grownBy_keeps hg' (fun r e=>(hr r e).2) hs.2.1 rfl).trans hs.2.1,(grownBy_keeps hg' (fun r e=>(hr r e).2) hs.2.2 rfl).trans hs.2.2⟩
 · intro s A B row hs hg' hr
   have ht:=turned (A:=A) hr;rw[←hD] at ht;obtain⟨c,hc,hl,hk⟩:=hs;exact⟨c,hIx c s A B row hc hg' ht,(grownBy_keeps hg' (fun r e=>(hr r e).2) hl rfl).trans hl,(grownBy_keeps hg' (fun r e=>(hr r e).2) hk rfl).trans hk⟩
 · rintro pre x W ⟨hi,hl,hk⟩ hyx hlen
   have hlt:D+1<W.heap.size:=(Array.getElem?_eq_some_iff.1 hl).1;have hy:=run_yield (P:=P) (args:=encs x) hl (by rw[hlp];exact hps x);rw[hlp] at hy;refine⟨fn,_,assign,body,hy,roundIn_of_wpIn hfn (wpIn_mono (hassign (D+1) pre x W hi hyx hlen) ?_)⟩;rintro e0 a0 W0 hp0;obtain rfl:e0=.normal:=by cases e0<;>first|rfl|exact hp0.elim
   obtain⟨hko,hkp,hb⟩:=hp0;have hl0:=hko.same _ _ hl rfl;have hlt0:D+1<W0.heap.size:=(Array.getElem?_eq_some_iff.1 hl0).1;have hk0:=hko.same _ _ hk rfl;refine⟨_,run_beginRound hl0 (by rw[hlp]),?_⟩;obtain⟨W2,hW2⟩:∃W2,W2=W0.putObj (D+1) (.loop { lp .ready none with state:=.busy }):=⟨_,rfl⟩
   rw[←hW2];have hl2:W2.heap[D+1]?=some (.loop { lp .ready none with state:=.busy }):=by rw[hW2];exact World.putObj_heap_same hlt0
   have hk2:W2.heap[D]?=some (.deferred (some [])):=by rw[hW2];exact(World.putObj_heap_other (by omega)).trans hk0
   have hw2:Kp W W2:=by rw[hW2];exact hKt hkp (hKb _ _ _ _ (by omega) hl0 rfl rfl)
   have hb2:B pre x a0 W2:=by rw[hW2];exact hB pre x a0 W0 (D+1) _ _ hb (by omega) hl0 rfl
   have fin:∀(jump:Option Code) (W3:World),KeepsOthers W2 W3 →
    (Instr.endRound (D+1) jump).run P W3=.ok (.bool jump.isNone) (W3.putObj (D+1) (.loop (lp (if jump.isNone then .ready else .done) jump))) ∧
    W3.heap[D+1]?=some (.loop { lp .ready none with state:=.busy }) ∧
    (W3.putObj (D+1) (.loop (lp (if jump.isNone then .ready else .done) jump))).heap[D+1]?=some (.loop (lp (if jump.isNone then .ready else .done) jump)) ∧
    (W3.putObj (D+1) (.loop (lp (if jump.isNone then .ready else .done) jump))).heap[D]?=some (.deferred (some [])):=fun jump W3 hk3=>by
    have hl3:=hk3.same _ _ hl2 rfl;have:=run_endRound (P:=P) jump hl3;rw[hlp] at this ⊢;exact⟨this,by rw[hlp] at hl3;exact hl3,World.putObj_heap_same (Array.getElem?_eq_some_iff.1 hl3).1,(World.putObj_heap_other (by omega)).trans (hk3.same _ _ hk2 rfl)⟩
   refine wpIn_mono (hbody _ pre x a0 W2 hb2 hlen) ?_;rintro e a3 W3 hp;cases e with
   | normal =>
    obtain⟨hk3,hkp3,hi3⟩:=hp;obtain⟨hr,hl3,hl4,hk4⟩:=fin none W3 hk3;exact⟨_,_,hr,.inl ⟨rfl,⟨hI.putObj _ hi3 (by omega) hl3 rfl,hl4,hk4⟩,hKt (hKt hw2 hkp3) (hKb _ _ _ _ (by omega) hl3 rfl rfl)⟩⟩
   | ret =>
    obtain⟨hr,hl3,hl4,hk4⟩:=fin (some .ret) W3 hp.1;exact⟨_,_,hr,.inr ⟨rfl,.ret,(hIx _).putObj _ hp.2 (by omega) hl3 rfl,hl4,hk4⟩⟩
   | exit id =>
    obtain⟨hr,hl3,hl4,hk4⟩:=fin (some (.exit id)) W3 hp.1;exact⟨_,_,hr,.inr ⟨rfl,.exit id,(hIx _).putObj _ hp.2 (by omega) hl3 rfl,hl4,hk4⟩⟩
   | goto t =>
    obtain⟨hr,hl3,hl4,hk4⟩:=fin (some (.goto t)) W3 hp.1;exact⟨_,_,hr,.inr ⟨rfl,.goto t,(hIx _).putObj _ hp.2 (by omega) hl3 rfl,hl4,hk4⟩⟩
   | panic ch=>exact hp.elim
   | outgrown=>exact hp.elim
 rintro e W2 ⟨⟨v,rfl⟩,(⟨xs,hS,hi,hl,hk⟩|⟨pre,hSp,c,hi,hl,hk⟩)⟩
 · exact⟨none,_,by have:=run_endLoop (P:=P) hl (by rw[hlp];simp);rw[hlp] at this;exact this,hdone _ xs _ (Nat.le_refl _) hS (hI.putObj _ hi (by omega) hl rfl) ((World.putObj_heap_other (by omega)).trans hk)⟩
 exact⟨some c,_,by have:=run_endLoop (P:=P) hl (by rw[hlp];simp);rw[hlp] at this;exact this,hstop _ c pre _ (Nat.le_refl _) hSp ((hIx c).putObj _ hi (by omega) hl rfl) ((World.putObj_heap_other (by omega)).trans hk)⟩
end Go.Proofs.YtngbdbpofifimaaGreat
namespace Go.Proofs.YtngbdbpofifimaaGreat.Store
open Go.RowKit Go.Sort Go.Proofs.YtngbdbpofifimaaGreat.ShaW Go.Proofs.YtngbdbpofifimaaGreat.Path Go.Proofs.YtngbdbpofifimaaGreat.Bk
section
variable {F : Fence} {n : Nat} {P : Program} {w : World} {ops : Array Oper} {rest : List Oper} {o : Oper} {a : Act} {Q : Exit→Act→World→Prop}
theorem Hn (hgd:o.guard=none) (ty:TypeId) (x:Operand) (ho:o.op=.load ty x)
 (g off:Nat) (hx:a.eval x=.pointer (some ⟨g,off,none⟩)) {t:TypeId} {cur:Array Value} {fr:Nat×Nat} {m:Nat} {d:TypeDesc} (hg:w.heap[g]?=some (.cells cur t fr)) (hu:P.underlying ty=some d)
 (hd:d.isRow=true) (hi:(P.info? ty).map (·.size)=some m) (hfit:off+m≤cur.size) (cs:Array Value) (hv:cur.extract off (off+m)=cs)
 (h:wpListIn F n P ops Q rest (a.put o.dst (.agg cs)) w):wpListIn F n P ops Q (o::rest) a w :=
 wpListIn_plain hgd fun _ hK=>by
  unfold Oper.wpIn;refine⟨?_,?_⟩
  · simp[Oper.about,ho]
  rw[Oper.semAt_plain F _ _ (by rw[ho];intro c hc';cases hc')];unfold execOp;simp only[ho,hx,Instr.loadAt,Instr.sureAddr,Sem.run_bind,Sem.run_pure,Result.andThen_ok,BU w hg hu hd hi hfit,hv];exact hK _ _ h
theorem EJ (hgd:o.guard=none) (ty:TypeId) (x y:Operand) (ho:o.op=.store ty x y)
 (g off:Nat) (cells:Array Value) (hx:a.eval x=.pointer (some ⟨g,off,none⟩)) (hy:a.eval y=.agg cells) {t:TypeId} {cur:Array Value} (hg:w.heap[g]?=some (.cells cur t (0,0)))
 (hi:(P.info? ty).map (·.size)=some cells.size) (hfit:off+cells.size≤cur.size) (h1:∀v∈cells.toList,v.oneCell'=true)
 (new:Array Value) (hn:(splice cur.toList off cells.toList).toArray=new) (h:wpListIn F n P ops Q rest (a.put o.dst undef) (w.setRow g new)):wpListIn F n P ops Q (o::rest) a w :=
 wpListIn_plain hgd fun _ hK=>by
  unfold Oper.wpIn;refine⟨?_,?_⟩
  · simp[Oper.about,ho]
  rw[Oper.semAt_plain F _ _ (by rw[ho];intro c hc';cases hc')];unfold execOp;simp only[ho,hx,hy,Instr.storeAt,Instr.sureAddr,Sem.run_bind,Sem.run_pure,Result.andThen_ok,GD w hg hi hfit h1,hn];exact hK _ _ h
theorem Et (hgd:o.guard=none) (ty:TypeId) (ho:o.op=.alloc ty)
 (z:Value) (hz:(P.info? ty).bind (·.zero)=some z) (h:wpListIn F n P ops Q rest (a.put o.dst (.pointer (some ⟨w.heap.size,0,none⟩))) (w.alloc (.cells z.cells ty))):wpListIn F n P ops Q (o::rest) a w :=
 wpListIn_plain hgd fun _ hK=>by
  cases hq:P.info? ty with
  | none=>simp[hq] at hz
  | some i =>
   have hz':i.zero=some z:=by simpa[hq] using hz
   unfold Oper.wpIn;refine⟨?_,?_⟩
   · simp[Oper.about,ho]
   rw[Oper.semAt_plain F _ _ (by rw[ho];intro c hc';cases hc')];unfold execOp;simp[ho,Instr.alloc,zeroValue,typeInfo,hq,hz',newVar,newRow];exact hK _ _ h
end
section
variable {F : Fence} {n : Nat} {P : Program} {w w' : World} {o : Oper} {a : Act} {Q : Exit→Act→World→Prop} {K : Act→World→Prop} {y : Operand→Value}
theorem Cn {ops:Array Oper} (hgd:o.guard=none) (hab:∀f,o.about P w a.eval=some f→F.fn f) (hpl:Oper.semAt F.round a.eval o=execOp a.eval o) {v:Value} (hrun:(execOp a.eval o).run P w=.ok (.value v) w') (h:K (a.put o.dst v) w') :
 if Region.wanted o (yielded ops a.tmps)=true then Oper.wpIn F n P o a w K Q else (∀f,o.about P w a.eval=some f→F.fn f)∧K (a.put o.dst undef) w:=by
 rw[if_pos (by simp[Region.wanted,hgd])];unfold Oper.wpIn;refine⟨hab,?_⟩;rw[hpl,hrun];exact h
theorem FK {ty:TypeId} {x:Operand} (ho:o.op=.load ty x) {p:Addr} (hx:a.eval x=.pointer (some p)) {v:Value} (h:(loadVar ty p).run P w=.ok v w):(execOp a.eval o).run P w=.ok (.value v) w:=by
 unfold execOp;simp only[ho,hx,Instr.loadAt,Instr.sureAddr,Sem.run_bind,Sem.run_pure,Result.andThen_ok,h]
theorem GC {s x:Operand} {t:TypeId} (ho:o.op=.call { callee:=.builtin .append,args:=#[s,x],argTypes:=#[t,t] }) {v:Value} (h:(Builtin.append_ #[t,t] o.type #[a.eval s,a.eval x]).run P w=.ok v w'):(execOp a.eval o).run P w=.ok (.value v) w':=by
 simp[execOp,ho,resolve,invoke,builtin,h,Result.andThen]
end
theorem AN.grownBy {w w':World} (h:AN w w'):w.grownBy w' none:=⟨h.os,h.tape,h.output,h.size,fun k hk _=>h.block k hk id⟩
theorem Pc (ao:Option Addr) (n c:Nat) (w:World) :
 Calls Tryz.prog 85 #[.slice ao n c] w fun e w'=>e=.returned (.func (.func 171) #[] #[.pointer (some ⟨w.heap.size,0,none⟩)])∧w.alloc (.cells #[.slice ao n c] 56)=w':=by
 go_enter Tryz.func85,Tryz.ntmps85;go_wp2;go_ret;exact⟨rfl,rfl⟩
theorem Hc {l:List Pr} {i:Nat} {x:Pr} (hx:l[i]?=some x):l.take (i+1)=l.take i ++ [x]:=by rw[List.take_add_one,hx];rfl
def Yv (n0:Nat) (out:List Pr) (pre:List Pr) (x:Pr) (W:World):Prop :=
 ∃y,out[pre.length]?=some y∧x.ent=y.ent∧x.key.length=32∧x.val.length≤1024∧BA W n0 x.vv x.val
theorem N3 {B:Nat} {w w':World} (h:Below B w w') {p:Addr} {v:Value} (hc:w.cell? p=some v) (hp:p.block<B):w'.cell? p=some v:=(h.cell (p:=p) hp).trans hc
theorem U9 (n:Nat) (hn:1≤n) (b base:Nat) (v:Value) (out:List Pr) (w:World)
 (hrow:w.heap[b]?=some (.cells #[v] 56 (0,0))) (ht:Told base w v out) (hlen:out.length≤65536) (hval:∀x∈out,x.val.length≤1024) :
 SeqY Fence.wide n Tryz.prog 171 #[.pointer (some ⟨b,0,none⟩)] (fun x:Pr=>#[.agg (AS x.key),x.vv]) (Yv w.heap.size out) (Below w.heap.size) (fun ys=>ys.map Pr.ent=out.map Pr.ent) (fun pre=>pre.map Pr.ent <+: out.map Pr.ent) out.length w:=by
 intro l J Jx W hW hJ hJx hY h0;have HY:=Lib.hid hY;have HJA:=Lib.hid hJ;obtain⟨ao,cap,rfl⟩:=ht.row.form;obtain⟨m,hm⟩:∃m,m=out.length:=⟨_,rfl⟩
 have hb:=Ad hrow;have c1:W.cell? ⟨b,0,none⟩=some (.slice ao m cap):=by rw[hm];exact N3 hW (AH hrow rfl) hb
 have HB:=Lib.hid hW;have HT:=Lib.hid ht;have HV:=Lib.hid hval;have HM:=Lib.hid hm;have hm65:m≤65536:=by omega
 obtain⟨Z,hZ⟩:∃Z,Z=Di:=⟨_,rfl⟩
 obtain⟨hz0,hz1,hz2,hz3⟩:=Hj;rw[←hZ] at hz0 hz1;have HZ:=(hIq hz0 hz1)
 obtain⟨i8,p1,p2,p3,p4⟩:=Mz;have HI:=(hIq p1 (aIq p2 (aIq p3 p4)))
 clear hY hJ hJx hrow hm hW ht hval hZ hz0 hz1 hz2 hz3 p1 p2 p3 p4 hlen;refine callsIn_of_wp Tryz.func171 rfl trivial ?_ rfl;simp only[Tryz.ntmps171,List.size_toArray,List.length_cons,List.length_nil,Nat.reduceAdd,Nat.reduceSub,Array.replicate_succ,Array.replicate_zero,List.push_toArray,List.append_toArray,List.nil_append,List.cons_append]
 gi_wp2
 gi_loopw [7] (fun i wr=>∃(k:Nat) (ys:List Pr),k≤m∧i=.int .i64 k∧ys.map Pr.ent=(out.take k).map Pr.ent∧J ys wr∧Below w.heap.size w wr) (fun i _=>m-(intOf i).toNat)
 case atStart=>exact⟨0,[],Nat.zero_le _,rfl,by simp,h0,HB.out⟩
 obtain⟨k,ys,hk,rfl,hys,hJs,hnx⟩:=hrel;have hyl:ys.length=k:=by have:=congrArg List.length hys;rw[List.length_map,List.length_map,List.length_take] at this;have:=HM.out;omega
 have HJ:=Lib.hid hJs;have HX:=Lib.hid hnx;have HYS:=(hIq hys hyl)
 by_cases hlt:k<m
 · obtain⟨x,hx⟩:∃x,out[k]?=some x:=⟨_,List.getElem?_eq_getElem (by rw[←HM.out];exact hlt)⟩
   have hxm:=List.mem_of_getElem? hx;obtain⟨hk32,hbx,hblk⟩:=HT.out.vals x hxm;obtain⟨g0,cp,cur,hv0,hbg,hg0,hs0,hx0,_⟩:=HT.out.row.open (fun y hy=>(HT.out.vals y hy).1) (by have:=HM.out;omega)
   injection hv0 with hv1 _ hv3;subst hv1;have hgl:g0<w.heap.size:=Ad hg0;have hrw:wr.heap[g0]?=some (.cells cur 86 (0,0)):=(hnx.block g0 hgl).trans hg0;have hbw:Bytes wr x.vv x.val:=hbx.Ae (Ch.TY hnx) (fun q hq hw=>by have:=(hblk q hq).2.1;omega);have hsz:=Pr.size hk32;have hm33:k*33+33≤cur.size:=by have:=Nat.mul_le_mul_right 33 (show k+1≤out.length by have:=HM.out;omega);omega
   have hxc:=hx0 k x hx;obtain⟨C,hC⟩:∃C,C=x.cells:=⟨_,rfl⟩
   have hCs:C.size=33:=by rw[hC];exact hsz
   have hC1:∀u∈C.toList,u.oneCell'=true:=by rw[hC];exact Pr.one (w:=w) ⟨hk32,hbx,fun _ q hq=>(hblk q hq).2.1⟩
   have hCk:C.extract 0 (0+32)=AS x.key:=by rw[hC];exact Pr.Be hk32
   have hCv:C[32]?=some x.vv:=by rw[hC];exact Pr.I5 hk32
   rw[←hC] at hxc;obtain⟨KX,hKX⟩:∃K,K=AS x.key:=⟨_,rfl⟩
   rw[←hKX] at hCk;obtain⟨p,hp⟩:∃p,p=wr.heap.size:=⟨_,rfl⟩
   obtain⟨wp,hwp⟩:∃wp,wp=(wr.alloc (.cells Z 86)).setRow p C:=⟨_,rfl⟩
   have rp:wp.heap[p]?=some (.cells C 86 (0,0)):=by rw[hwp,hp];exact AK (heap_alloc_new _ _) _
   have ap:AN wr wp:=by rw[hwp];exact((Ch.refl _ _).alloc _).setRow (.inr (by omega)) _
   obtain⟨xo,xc,hxv,_⟩:=hbw.form;obtain⟨v',w8,hrun,hown8,a8⟩:=FJ (P:=Tryz.prog) wp.drew 29 29 5 rfl i8 Tryz.underlying29 HI.out.1 HI.out.2.1 HI.out.2.2.1 HI.out.2.2.2 x.vv x.val (hbw.Ae ap.drew (fun _ _ h=>h)) (by have:=HV.out x hxm;omega);have r8:=a8.row (AM rp) id;have a18:AN wr w8:=ap.drew.trans a8 (fun _=>fEq);have hwr:=HX.out.size;have hJ8:=HJA.out ys wr w8 none HJ.out a18.grownBy (fun r e=>by cases e);have hY8:Yv w.heap.size out ys ⟨x.key,v',x.val⟩ w8:=⟨x,by rw[HYS.out.2];exact hx,rfl,hk32,HV.out x hxm,hown8.base (fun q hq=>by have h1:=(hown8.lt q hq).1;have h2:=ap.size;simp at h1;omega)⟩
   obtain⟨fn,tmps,assign,body,hy,hR⟩:=HY.out ys ⟨x.key,v',x.val⟩ w8 hJ8 hY8 (by rw[HYS.out.2, ←HM.out];exact hlt);dsimp only at hy;rw[←hKX] at hy
   have hR2:=hR.mono (R':=fun e W'=>∃bb:Bool,e=.returned (.bool bb)∧(if bb=true then J (ys ++ [Pr.mk x.key v' x.val]) W'∧Below w.heap.size w8 W' else Jx (ys ++ [Pr.mk x.key v' x.val]) W')) (fun e W' h=>by
    rcases h with⟨rfl,p,q⟩|⟨rfl,p⟩
    · exact⟨true,rfl,by rw[if_pos rfl];exact⟨p,q⟩⟩
    exact⟨false,rfl,by rw[if_neg (by decide)];exact p⟩)
   have eK:∀w0:World,w0.heap[p]?=some (.cells C 86 (0,0))→(loadVar 47 ⟨p,0,none⟩).run Tryz.prog w0=.ok (.agg KX) w0:=fun w0 h=>by
    have:=BU (P:=Tryz.prog) w0 h Tryz.underlying47 rfl Ab (off:=0) (by rw[hCs];omega);rw[this,hCk]
   have e1:=eK wp.drew (AM rp);have e8:=eK w8 r8;have c32:=AH (AM rp) hCv;have c832:=AH r8 hCv;have HW:=(hIq hwp hp)
   have HC:=(hIq hCs (aIq hC1 hxc))
   have HR2:=Lib.hid hR2;have HRW:=(hIq hrw hm33)
   have HYY:=Lib.hid hy;have HEND:=Lib.hid (show(ys ++ [Pr.mk x.key v' x.val]).map Pr.ent=(out.take (k+1)).map Pr.ent by rw[List.map_append,HYS.out.1,Hc hx,List.map_append];rfl);have HB8:=Lib.hid (show Below w.heap.size w w8 from HX.out.trans (a18.below HX.out.size (fun _=>fEq)));rw[hxv] at hrun c32 c832;have hkm:(k:Int)<(m:Int):=by omega
   clear hx hxm hk32 hbx hblk hbg hg0 hs0 hx0 hgl hrw hbw hsz hm33 hxc hC hCs hC1 hCk hCv hKX hwp rp ap hown8 a8 r8 a18 hwr hJ8 hY8 hR hR2 eK hys hyl hJs hnx hxv hp hv3
   gi_wp2_with (first
    | fail
    | ((with_reducible show wpListIn _ _ _ _ _ (⟨_,.load 86 _,_,_,_,_⟩::_) _ _);refine Hn rfl 86 _ rfl g0 (k*33) rfl HRW.out.1 Tryz.underlying86 rfl B8 HRW.out.2 C HC.out.2.2 ?_)
    | ((with_reducible show wpListIn _ _ _ _ _ (⟨_,.alloc 86,_,_,_,_⟩::_) _ _);refine Et rfl 86 rfl (.agg Z) HZ.out.1 ?_;dsimp only[Value.cells];try simp only[World.size_alloc])
    | ((with_reducible show wpListIn _ _ _ _ _ (⟨_,.store 86 _ _,_,_,_,_⟩::_) _ _);refine EJ rfl 86 _ _ rfl wr.heap.size 0 C rfl rfl (heap_alloc_new _ _) (by rw[B8,HC.out.1]) (by rw[HC.out.1,HZ.out.2];omega) HC.out.2.1 C (by rw[AT _ _ (by rw[Array.length_toList,Array.length_toList,HC.out.1,HZ.out.2])]) ?_))
   rw[←HW.out.2];rw[←HW.out.1];refine wpIn_region_any (by kernel_rfl) ?_;change wpAnyIn _ _ _ _ _ _ _ _ _ (World.drew _);refine wpAnyIn_take (i:=0) (v:=.func (.yield l) #[] #[]) rfl rfl (by kernel_rfl) (by kernel_rfl) (by kernel_rfl) (fun _ _ _ h=>h) ⟨Or.inl ⟨by rfl,fun w0=>by go_simp;try rfl⟩,fun _=>rfl⟩ ?_;refine wpAnyIn_take (i:=1) (v:=.pointer (some ⟨p,0,none⟩)) rfl rfl (by kernel_rfl) (by kernel_rfl) (by kernel_rfl) (fun _ _ _ h=>h) ⟨Or.inl ⟨by rfl,fun w0=>by go_simp;try rfl⟩,fun _=>rfl⟩ ?_;refine wpAnyIn_take (i:=3) (v:=.pointer (some ⟨p,32,none⟩)) rfl rfl (by kernel_rfl) (by kernel_rfl) (by kernel_rfl) (fun _ _ _ h=>h) ⟨Or.inl ⟨by rfl,fun w0=>by go_simp;try rfl⟩,fun _=>rfl⟩ ?_;have sl:(loadVar 29 ⟨p,32,none⟩).run Tryz.prog wp.drew=.ok (.slice xo x.val.length xc) wp.drew:=by go_simp;try rfl
   refine wpAnyIn_ready (rs := [2,4]) (by kernel_rfl) (by simp) (AllReadyIn.cons rfl (fun K2 hK2=>?_) (AllReadyIn.cons rfl (fun K4 hK4=>?_) AllReadyIn.nil))
   · refine Cn rfl (fun f hf=>trivial) rfl (FK rfl rfl e1) (hK2 _ _ ?_)
     refine wpAnyIn_ready (rs := [4]) (by kernel_rfl) (by simp) (AllReadyIn.cons rfl (fun K4 hK4=>?_) AllReadyIn.nil);refine Cn rfl (fun f hf=>trivial) rfl (FK rfl rfl sl) (hK4 _ _ ?_);refine wpAnyIn_ready (rs := [5]) (by kernel_rfl) (by simp) (AllReadyIn.cons rfl (fun K5 hK5=>?_) AllReadyIn.nil);refine Cn rfl (fun f hf=>trivial) rfl (GC rfl hrun) (hK5 _ _ ?_);refine wpAnyIn_ready (rs := [6]) (by kernel_rfl) (by simp) (AllReadyIn.cons rfl (fun K6 hK6=>?_) AllReadyIn.nil);simp only[Act.put];go_simp;refine HR2.out.mono ?_;rintro e W3 ⟨bb,rfl,hbb⟩;refine hK6 _ _ ?_;refine wpAnyIn_take (i:=7) (v:=.bool (!bb)) rfl rfl (by kernel_rfl) (by kernel_rfl) (by kernel_rfl) (fun _ _ _ h=>h) ⟨Or.inl ⟨by rfl,fun w0=>by go_simp;try rfl⟩,fun _=>rfl⟩ ?_;refine wpAnyIn_done (by kernel_rfl) ?_ _;simp only[Act.put];clear hK6;cases bb with|true=>(rw[if_pos rfl] at hbb;obtain⟨hJ3,hK3⟩:=hbb;have H3:=(hIq hJ3 hK3);clear hJ3 hK3;gi_wp2;go_roundw;(case rel=>exact⟨k+1,ys ++ [Pr.mk x.key v' x.val],by omega,by simp,HEND.out,H3.out.1,HB8.out.trans H3.out.2⟩);(case measure=>(simp[intOf];omega)))|false=>(rw[if_neg (by decide)] at hbb;have H3:=Lib.hid hbb;clear hbb;gi_wp2;refine bodyPost_ret (results_none rfl _ _ _) rfl ?_;exact⟨⟨_,rfl⟩,.inr ⟨_,by rw[HEND.out];exact(List.take_prefix _ _).map _,H3.out⟩⟩)
   refine Cn rfl (fun f hf=>trivial) rfl (FK rfl rfl sl) (hK4 _ _ ?_);refine wpAnyIn_ready (rs := [2,5]) (by kernel_rfl) (by simp) (AllReadyIn.cons rfl (fun K2 hK2=>?_) (AllReadyIn.cons rfl (fun K5 hK5=>?_) AllReadyIn.nil))
   · refine Cn rfl (fun f hf=>trivial) rfl (FK rfl rfl e1) (hK2 _ _ ?_)
     refine wpAnyIn_ready (rs := [5]) (by kernel_rfl) (by simp) (AllReadyIn.cons rfl (fun K5 hK5=>?_) AllReadyIn.nil);refine Cn rfl (fun f hf=>trivial) rfl (GC rfl hrun) (hK5 _ _ ?_);refine wpAnyIn_ready (rs := [6]) (by kernel_rfl) (by simp) (AllReadyIn.cons rfl (fun K6 hK6=>?_) AllReadyIn.nil);simp only[Act.put];go_simp;refine HR2.out.mono ?_;rintro e W3 ⟨bb,rfl,hbb⟩;refine hK6 _ _ ?_;refine wpAnyIn_take (i:=7) (v:=.bool (!bb)) rfl rfl (by kernel_rfl) (by kernel_rfl) (by kernel_rfl) (fun _ _ _ h=>h) ⟨Or.inl ⟨by rfl,fun w0=>by go_simp;try rfl⟩,fun _=>rfl⟩ ?_;refine wpAnyIn_done (by kernel_rfl) ?_ _;simp only[Act.put];clear hK6;cases bb with|true=>(rw[if_pos rfl] at hbb;obtain⟨hJ3,hK3⟩:=hbb;have H3:=(hIq hJ3 hK3);clear hJ3 hK3;gi_wp2;go_roundw;(case rel=>exact⟨k+1,ys ++ [Pr.mk x.key v' x.val],by omega,by simp,HEND.out,H3.out.1,HB8.out.trans H3.out.2⟩);(case measure=>(simp[intOf];omega)))|false=>(rw[if_neg (by decide)] at hbb;have H3:=Lib.hid hbb;clear hbb;gi_wp2;refine bodyPost_ret (results_none rfl _ _ _) rfl ?_;exact⟨⟨_,rfl⟩,.inr ⟨_,by rw[HEND.out];exact(List.take_prefix _ _).map _,H3.out⟩⟩)
   refine Cn rfl (fun f hf=>trivial) rfl (GC rfl hrun) (hK5 _ _ ?_);refine wpAnyIn_ready (rs := [2]) (by kernel_rfl) (by simp) (AllReadyIn.cons rfl (fun K2 hK2=>?_) AllReadyIn.nil);refine Cn rfl (fun f hf=>trivial) rfl (FK rfl rfl e8) (hK2 _ _ ?_);refine wpAnyIn_ready (rs := [6]) (by kernel_rfl) (by simp) (AllReadyIn.cons rfl (fun K6 hK6=>?_) AllReadyIn.nil);simp only[Act.put];go_simp;refine HR2.out.mono ?_;rintro e W3 ⟨bb,rfl,hbb⟩;refine hK6 _ _ ?_;refine wpAnyIn_take (i:=7) (v:=.bool (!bb)) rfl rfl (by kernel_rfl) (by kernel_rfl) (by kernel_rfl) (fun _ _ _ h=>h) ⟨Or.inl ⟨by rfl,fun w0=>by go_simp;try rfl⟩,fun _=>rfl⟩ ?_;refine wpAnyIn_done (by kernel_rfl) ?_ _;simp only[Act.put];clear hK6;cases bb with|true=>(rw[if_pos rfl] at hbb;obtain⟨hJ3,hK3⟩:=hbb;have H3:=(hIq hJ3 hK3);clear hJ3 hK3;gi_wp2;go_roundw;(case rel=>exact⟨k+1,ys ++ [Pr.mk x.key v' x.val],by omega,by simp,HEND.out,H3.out.1,HB8.out.trans H3.out.2⟩);(case measure=>(simp[intOf];omega)))|false=>(rw[if_neg (by decide)] at hbb;have H3:=Lib.hid hbb;clear hbb;gi_wp2;refine bodyPost_ret (results_none rfl _ _ _) rfl ?_;exact⟨⟨_,rfl⟩,.inr ⟨_,by rw[HEND.out];exact(List.take_prefix _ _).map _,H3.out⟩⟩)
 obtain rfl:k=m:=by omega
 gi_wp2
 go_end0;exact⟨⟨_,rfl⟩,.inl ⟨ys,by rw[HYS.out.1,List.take_of_length_le (by have:=HM.out;omega)],HJ.out⟩⟩
end Go.Proofs.YtngbdbpofifimaaGreat.Store
namespace Go.Proofs.YtngbdbpofifimaaGreat
open Go.RowKit
section
variable {F : Fence} {n : Nat} {P : Program} {ops : Array Oper} {Q : Exit→Act→World→Prop} {md : Region.Mode} {S : World→Prop}
def Cw (P:Program) (ops:Array Oper) (S:World→Prop) (o:Oper) (v:Value) (a:Act):Prop:=YieldsIf P ops S o v a∧∀w,o.about P w a.eval=none
theorem Cw.same {o:Oper} {v:Value} {a a':Act} (h:Cw P ops S o v a) (he:execOp a'.eval o=execOp a.eval o) (hw:Region.wanted o (yielded ops a'.tmps)=Region.wanted o (yielded ops a.tmps))
 (hb:∀w,o.about P w a'.eval=o.about P w a.eval):Cw P ops S o v a' :=
 ⟨h.1.of_same he hw,fun w=>(hb w).trans (h.2 w)⟩
theorem Cw.step {i:Nat} {o:Oper} {v:Value} {a:Act} {w:World} (hi:ops[i]?=some o) (hnd:∀c,o.op≠.defer c) (h:Cw P ops S o v a) (hS:S w) {K:Act→World→Prop} (hK:K (a.put o.dst v) w):wpOpIn F n P ops Q i K a w:=by
 have hab:∀f,o.about P w a.eval=some f→F.fn f:=fun f e=>by rw[h.2 w] at e;cases e
 unfold Go.wpOpIn;rw[hi];dsimp only;rcases h.1 with⟨hw,hv⟩|⟨hw,rfl⟩
 · rw[if_pos hw]
   unfold Oper.wpIn;rw[Oper.semAt_plain F _ _ hnd,hv w hS];exact⟨hab,hK⟩
 rw[if_neg (by rw[hw];decide)];exact⟨hab,hK⟩
theorem Cw.swap {j:Nat} {oi oj:Oper} {v:Value} (hj:ops[j]?=some oj) (hap:oi.apart ops oj=true) (hsi:∀cs b,oi.op≠.select cs b) (hsj:∀cs b,oj.op≠.select cs b) (hnd:∀c,oj.op≠.defer c)
 (hQ:∀c a w,Q (.panic c) (a.put oi.dst v) w→Q (.panic c) a w) {K:Act→World→Prop} {a:Act} {w:World} (hy:Cw P ops S oi v a) (h:wpOpIn F n P ops Q j K (a.put oi.dst v) w) :
 wpOpIn F n P ops Q j (fun a' w'=>Cw P ops S oi v a'∧K (a'.put oi.dst v) w') a w:=by
 obtain⟨h1,h2,h3⟩:=Oper.apart_spec hap;have Ae:∀u,Cw P ops S oi v (a.put oj.dst u):=fun u=>hy.same (execOp_put oi hsi a oj.dst u h3) (wanted_put oi a oj.dst u h3) (fun w=>about_put oi w a oj.dst u h3)
 have back:∀u,K ((a.put oi.dst v).put oj.dst u)=K ((a.put oj.dst u).put oi.dst v):=fun u=>by rw[Act.put_comm a v u h2]
 unfold Go.wpOpIn at h ⊢;rw[hj] at h ⊢;dsimp only at h ⊢;rw[wanted_put oj a oi.dst v h1,about_put oj w a oi.dst v h1] at h;by_cases hw:Region.wanted oj (yielded ops a.tmps)=true
 · rw[if_pos hw] at h ⊢
   unfold Oper.wpIn at h ⊢;rw[about_put oj w a oi.dst v h1,Oper.semAt_plain F _ _ hnd,execOp_put oj hsj a oi.dst v h1] at h;rw[Oper.semAt_plain F _ _ hnd];refine⟨h.1,?_⟩;have h:=h.2
   revert h
   cases (execOp a.eval oj).run P w with
   | ok x w' =>
    cases x with
    | value u=>intro h;simp only[Oper.uponIn] at h ⊢;exact⟨Ae u,by rw[←back];exact h⟩
    | skip=>intro h;simp only[Oper.uponIn] at h ⊢;exact⟨Ae _,by rw[←back];exact h⟩
    | defer d =>
     intro h;simp only[Oper.uponIn] at h ⊢;have hd:Cw P ops S oi v { a with defers:=d::a.defers }:=hy.same rfl rfl (fun _=>rfl);refine⟨hd.same (execOp_put oi hsi _ oj.dst undef h3) (wanted_put oi _ oj.dst undef h3) (fun w=>about_put oi w _ oj.dst undef h3),?_⟩;rw[←Act.put_comm _ v undef h2, ←Act.put_defers];exact h
    | enter f args =>
     intro h;simp only[Oper.uponIn] at h ⊢
     exact⟨h.1,CallsIn.mono h.2 fun e w2 he=>by
      cases e with
      | returned u=>exact⟨Ae u,by rw[←back];exact he⟩
      | panicked c=>exact hQ _ _ _ he
      | outgrown=>exact he⟩
    | row row args=>intro h;simp only[Oper.uponIn] at h ⊢;exact⟨h.1,RowsIn.mono h.2 fun u w2 he=>⟨Ae u,by rw[←back];exact he⟩⟩
    | round l f tmps assign body =>
     intro h;simp only[Oper.uponIn] at h ⊢
     exact⟨h.1,RoundIn.mono h.2 fun e w2 he=>by
      cases e with
      | returned u=>exact⟨Ae u,by rw[←back];exact he⟩
      | panicked c=>exact hQ _ _ _ he
      | outgrown=>exact he⟩
    | _=>intro h;simp only[Oper.uponIn] at h ⊢
   | halt x w' =>
    cases x with
    | panic u=>intro h;simp only[Oper.uponIn] at h ⊢;exact hQ _ _ _ h
    | _=>intro h;simp only[Oper.uponIn] at h ⊢
 rw[if_neg hw] at h ⊢;exact⟨h.1,Ae _,by rw[←back];exact h.2⟩
def IB (F:Fence) (n:Nat) (P:Program) (md:Region.Mode) (ops:Array Oper) (Q:Exit→Act→World→Prop) (S:World→Prop):Nat→Array Bool→Act→World→Prop
 | 0,listed,a,w=>Region.ready md ops listed = []∧Q .normal a w
 | f+1,listed,a,w=>Region.ready md ops listed ≠ []∧∀i∈Region.ready md ops listed,wpOpIn F n P ops Q i (fun a' w'=>S w'∧IB F n P md ops Q S f (listed.setIfInBounds i true) a' w') a w
theorem GQ:∀(f:Nat) (listed:Array Bool) (a:Act) (w:World),IB F n P md ops Q S f listed a w→wpAnyIn F n P md ops Q f listed a w
 | 0,_,_,_,h=>h
 | f+1,_,_,_,h=>⟨fun h0=>absurd h0 h.1,fun i hi=>wpOpIn_mono (fun a' w' h'=>GQ f _ a' w' h'.2) (h.2 i hi)⟩
def Hs (ops:Array Oper):Bool:=ops.all fun o=>match o.op with | .defer _=>false|_=>true
theorem Fh (h:Hs ops=true) {i:Nat} {o:Oper} (hi:ops[i]?=some o):∀c,o.op≠.defer c:=fun c e=>by
 obtain⟨hlt,he⟩:=Array.getElem?_eq_some_iff.1 hi;unfold Hs at h;rw[Array.all_eq_true] at h;have:=h i hlt;rw[he,e] at this;cases this
theorem Kx {i:Nat} {oi:Oper} {v:Value} (hi:ops[i]?=some oi) (hsel:∀(j:Nat) (o:Oper) cs b,ops[j]?=some o→o.op≠.select cs b) (hnd:Hs ops=true) (hQ:∀c a w,Q (.panic c) (a.put oi.dst v) w→Q (.panic c) a w) :
 ∀(f:Nat) (listed:Array Bool) (a:Act) (w:World),
  (∀j oj,ops[j]?=some oj→j≠i→listed.getD j true=false→(∀e∈oj.after,Region.binds md e=true→e.on≠i)→oi.apart ops oj=true) →
  i∈Region.ready md ops listed→Cw P ops S oi v a→S w→IB F n P md ops Q S f (listed.setIfInBounds i true) (a.put oi.dst v) w→IB F n P md ops Q S (f+1) listed a w:=by
 intro f
 induction f with
 | zero =>
  intro listed a w _ hr hy hS H;refine⟨fun h=>(by rw[h] at hr;cases hr),fun j hj=>?_⟩;by_cases hji:j=i
  · subst hji;exact hy.step hi (Fh hnd hi) hS ⟨hS,H⟩
  have:=ready_mono hj hji;rw[H.1] at this;cases this
 | succ f ih =>
  intro listed a w hfree hr hy hS H;have hun:=(mem_ready.1 hr).1;refine⟨fun h=>(by rw[h] at hr;cases hr),fun j hj=>?_⟩;by_cases hji:j=i
  · subst hji;exact hy.step hi (Fh hnd hi) hS ⟨hS,H⟩
  have h1:=H.2 j (ready_mono hj hji);obtain⟨hjun,oj,hoj,hall⟩:=mem_ready.1 hj
  have hnot:∀e∈oj.after,Region.binds md e=true→e.on≠i:=fun e he hb heq=>by
   have h1:=hall e he hb;rw[heq,getD_both hun] at h1;cases h1
  have h2:=Cw.swap hoj (hfree j oj hoj hji hjun hnot) (fun cs b=>hsel i oi cs b hi) (fun cs b=>hsel j oj cs b hoj) (Fh hnd hoj) hQ hy h1;refine wpOpIn_mono (fun a' w' h3=>⟨h3.2.1,ih (listed.setIfInBounds j true) a' w' (fun k ok hk hki hkun hno=>?_) (ready_mono hr (Ne.symm hji)) h3.1 h3.2.1 ?_⟩) h2
  · refine hfree k ok hk hki ?_ hno
    by_cases hjk:j=k
    · subst hjk;exact hjun
    rw[getD_set_ne true hjk] at hkun;exact hkun
  rw[Array.setIfInBounds_comm _ _ hji];exact h3.2.2
def Ct (F:Fence) (n:Nat) (P:Program) (l:List Oper) (Q:Exit→Act→World→Prop) (S:World→Prop):List (Nat×Bool)→Act→World→Prop
 | [],a,w=>Q .normal a w
 | (i,false)::r,a,w=>∃o v,l[i]?=some o∧Cw P l.toArray S o v a∧Ct F n P l Q S r (a.put o.dst v) w
 | (i,true)::r,a,w=>wpOpIn F n P l.toArray Q i (fun a' w'=>S w'∧Ct F n P l Q S r a' w') a w
def Hg (md:Region.Mode) (ops:Array Oper):List (Nat×Bool)→Array Bool→Bool
 | [],listed=>decide (Region.ready md ops listed = [])
 | (i,false)::r,listed=>(Region.ready md ops listed).contains i&&Region.free md ops listed i&&Hg md ops r (listed.setIfInBounds i true)
 | (i,true)::r,listed=>decide (Region.ready md ops listed = [i])&&Hg md ops r (listed.setIfInBounds i true)
def Mu (md:Region.Mode) (ops:Array Oper) (p:List (Nat×Bool)):Bool:=Region.noSelect ops&&Hs ops&&decide (p.length=ops.size)&&Hg md ops p (Array.replicate ops.size false)
theorem EB {l:List Oper} (hsel:Region.noSelect l.toArray=true) (hnd:Hs l.toArray=true) (hQ:∀c a a' w,Q (.panic c) a' w→Q (.panic c) a w) :
 ∀(p:List (Nat×Bool)) (listed:Array Bool) (a:Act) (w:World),Hg md l.toArray p listed=true→S w→Ct F n P l Q S p a w→IB F n P md l.toArray Q S p.length listed a w
 | [],listed,a,w,hB,_,h=>⟨by simpa[Hg] using hB,h⟩
 | (i,false)::r,listed,a,w,hB,hS,h=>by
  simp only[Hg,Bool.and_eq_true] at hB;obtain⟨⟨hr,hf⟩,hB'⟩:=hB;obtain⟨o,v,ho,hy,h'⟩:=h;have hr':i∈Region.ready md l.toArray listed:=by simpa using hr
  have ho':l.toArray[i]?=some o:=by simpa using ho
  exact Kx ho' (Region.noSelect_spec hsel) hnd (fun c a w=>hQ c _ _ w) r.length listed a w (Region.free_spec ho' hf) hr' hy hS (EB hsel hnd hQ r _ _ w hB' hS h')
 | (i,true)::r,listed,a,w,hB,hS,h=>by
  simp only[Hg,Bool.and_eq_true,decide_eq_true_eq] at hB;obtain⟨hr,hB'⟩:=hB;refine⟨by rw[hr];simp,fun j hj=>?_⟩;have hji:j=i:=by rw[hr] at hj;simpa using hj
  subst hji;exact wpOpIn_mono (fun a' w' h'=>⟨h'.1,EB hsel hnd hQ r _ a' w' hB' h'.1 h'.2⟩) h
theorem Iu {id:Nat} {a:Act} {w:World} {l:List Oper} (S:World→Prop) (p:List (Nat×Bool)) (hm:P.follows .mixedOrders=true) (hB:Mu .any l.toArray p=true)
 (hQ:∀c a a' w,Q (.panic c) a' w→Q (.panic c) a w) (hS:S w.drew) (h:Ct F n P l Q S p a w.drew):(Code.region id l.toArray true).wpIn F n P Q a w:=by
 simp only[Mu,Bool.and_eq_true,decide_eq_true_eq] at hB;obtain⟨⟨⟨hsel,hnd⟩,hlen⟩,hp⟩:=hB;have H:=EB (md:=.any) hsel hnd hQ p _ a _ hp hS h;rw[hlen] at H;exact wpIn_region_any hm (GQ _ _ _ _ H)
theorem planI_look {l:List Oper} {i:Nat} {r:List (Nat×Bool)} {a:Act} {w:World} {o:Oper} {v:Value} (ho:l[i]?=some o) (hw:Region.wanted o (yielded l.toArray a.tmps)=true) (hab:∀w,o.about P w a.eval=none)
 (hy:∀w0,S w0→(execOp a.eval o).run P w0=.ok (.value v) w0) (h:Ct F n P l Q S r (a.put o.dst v) w):Ct F n P l Q S ((i,false)::r) a w :=
 ⟨o,v,ho,⟨.inl ⟨hw,hy⟩,hab⟩,h⟩
theorem Ru {l:List Oper} {i:Nat} {r:List (Nat×Bool)} {a:Act} {w:World} {o:Oper} (ho:l[i]?=some o)
 (h:wpListIn F n P l.toArray (Exit.then (fun a' w'=>S w'∧Ct F n P l Q S r a' w') Q) [o] a w):Ct F n P l Q S ((i,true)::r) a w:=by
 show wpOpIn F n P l.toArray Q i _ a w
 have ho':l.toArray[i]?=some o:=by simpa using ho
 unfold Go.wpOpIn;rw[ho'];dsimp only;unfold wpListIn at h;by_cases hw:Region.wanted o (yielded l.toArray a.tmps)=true
 · rw[if_pos hw] at h ⊢
   unfold Oper.wpIn at h ⊢;refine⟨h.1,?_⟩;have h:=h.2
   revert h
   cases (o.semAt F.round a.eval).run P w with
   | ok x w' =>
    cases x<;>intro h<;>simp only[Oper.uponIn,wpListIn,Exit.then] at h ⊢ <;>
     first
      | exact h
      | exact⟨h.1,CallsIn.mono h.2 (fun e w2 he=>by cases e<;>exact he)⟩
      | exact⟨h.1,RowsIn.mono h.2 (fun _ _ he=>he)⟩
      | exact⟨h.1,RoundIn.mono h.2 (fun e w2 he=>by cases e<;>exact he)⟩
   | halt x w'=>cases x<;>intro h<;>simp only[Oper.uponIn,Exit.then] at h ⊢ <;> exact h
 rw[if_neg hw] at h ⊢;exact h
theorem Fp {l:List Oper} {i:Nat} {r:List (Nat×Bool)} {a:Act} {w:World} {o:Oper} (ho:l[i]?=some o) (hw:Region.wanted o (yielded l.toArray a.tmps)=true) (ty:TypeId) (x:Operand) (hop:o.op=.load ty x) (g off k:Nat) (hx:a.eval x=.pointer (some ⟨g,off,none⟩))
 {t:TypeId} {cur:Array Value} {fr:Nat×Nat} {d:TypeDesc} (hg:∀w0,S w0→w0.heap[g]?=some (.cells cur t fr)) (hu:P.underlying ty=some d) (hd:d.isRow=true) (hi:(P.info? ty).map (·.size)=some k) (hfit:off+k≤cur.size) (cs:Array Value) (hv:cur.extract off (off+k)=cs)
 (h:Ct F n P l Q S r (a.put o.dst (.agg cs)) w):Ct F n P l Q S ((i,false)::r) a w :=
 planI_look ho hw (fun w=>by simp[Oper.about,hop]) (fun w0 hS=>by
  unfold execOp;simp only[hop,hx,Instr.loadAt,Instr.sureAddr,Sem.run_bind,Sem.run_pure,Result.andThen_ok,BU w0 (hg w0 hS) hu hd hi hfit,hv]) h
end
end Go.Proofs.YtngbdbpofifimaaGreat
