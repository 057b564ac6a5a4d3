/- Laws of the layers below. -/
import Derived.Test.YtooijgcildbnlaaGreatQi40
import Derived.RangeFuncFrom
import Derived.RangeFuncNested
import Derived.RangeFuncBound
import Derived.RangeFuncCalls
import Derived.RangeFuncLeaves
import Derived.OwnWalkIn
import Derived.TacticsInMore
import Derived.LoopNIn
import Derived.LoopIn
import Derived.Stop.RegionWithIn
import Derived.OrdersIn
import Derived.RangeFuncKeeps
import Derived.Shelf.Abstract
set_option maxHeartbeats 3200000
set_option maxRecDepth 100000
set_option linter.unusedVariables false
namespace Go.Proofs.YtooijgcildbnlaaGreat.Store
open Go.RowKit Go.Proofs.YtooijgcildbnlaaGreat.ShaW Go.Proofs.YtooijgcildbnlaaGreat.Path Go.Proofs.YtooijgcildbnlaaGreat.BC
section
variable {w0 w w' : World} {c s b : Nat} {σ σ' τ τ' : AA Nd} {root : Int} {aside : List Int} {G : Nat→Prop}
def Xa (σ:AA Nd) (r:Int) (x:Lt) (y:Int) (σ1:AA Nd) (e:Ending):Prop:=e=.returned (.tuple #[.int .i64 y,.int .i64 (DN σ r x.val),.bool true])∧YJ σ r x.key x.val y σ1
def YK (w0 w:World) (c s b:Nat) (σ:AA Nd) (root:Int) (aside:List Int) (G:Nat→Prop) (r:Int) (x:Lt):Prop :=
 Calls Tryz.prog 146 #[.pointer (some ⟨c,0,none⟩),.int .i64 r,.agg x.cells] w fun e w'=>∃(y:Int) (σ1:AA Nd),Xa σ r x y σ1 e∧U2 w0 w' c s b σ1 σ1 root aside G∧But G w w'
end
structure Sce (σ:AA Nd) (root:Int) (L:AN) (A:List (Int×AN)) (n i:Nat):Prop where
 roots:Roots σ ((root,L)::A)
 nz:∀p∈A,p.1≠0
 len:A.length≤9
 tot:total σ≤601*i
 room:σ.room=n
def PN (A:List (Int×AN)):List Int:=A.map Prod.fst
def ZH (w0 w':World) (c s b n i:Nat) (G:Nat→Prop) (e:Ending):Prop :=
 e=.returned (.bool true)∧∃(σ:AA Nd) (root:Int) (L:AN) (A:List (Int×AN)),U2 w0 w' c s b σ σ root (PN A) G∧Sce σ root L A n (i+1)

theorem UX (x:Int) (n:Nat) (hn:0<n) (hn2:n≤1000000) (w:World):Calls Tryz.prog 60 #[.int .i64 x,.int .i64 n] w fun e w'=>e=.returned (.int .i64 (pick x n))∧w=w':=by
 have h1:=Int.lt_tmod_of_pos x (show(0:Int)<n by omega);have h2:=Int.tmod_lt_of_pos x (show(0:Int)<n by omega);have hw0:IntKind.i64.wrap (Int.tmod x n)=Int.tmod x n:=IntWalk.i64_in _ (by omega);have hw:IntKind.i64.wrap (Int.tmod x n+n)=Int.tmod x n+n:=IntWalk.i64_in _ (by omega);have hz:((n:Int) == 0)=false:=by simpa using (show ¬(n:Int)=0 by omega)
 unfold pick;by_cases h0:Int.tmod x n<0
 · rw[if_pos h0]
   go_enter Tryz.func60,Tryz.ntmps60;go_wp2;go_ret;exact⟨rfl,rfl⟩
 rw[if_neg h0];have hx0:decide (Int.tmod x n<0)=false:=decide_eq_false h0;go_enter Tryz.func60,Tryz.ntmps60;go_wp2;go_ret;exact⟨rfl,rfl⟩

end Go.Proofs.YtooijgcildbnlaaGreat.Store
namespace Go.Proofs.YtooijgcildbnlaaGreat.BC
open Go.RowKit Go.Proofs.YtooijgcildbnlaaGreat.ShaW Go.Proofs.YtooijgcildbnlaaGreat.Path Go.Proofs.YtooijgcildbnlaaGreat.Store Go.Deep Go.ChangeShapes Go.WideShapes Go.ChangeAt
def G8 (w:World) (ao:Option Addr) (len:Nat):Prop:=∀i,i<len→∃(g off:Nat) (x:Lt),ao=some ⟨g,off,none⟩∧x.Good w∧Bz w g (off+i*35) x.cells

end Go.Proofs.YtooijgcildbnlaaGreat.BC
namespace Go.Proofs.YtooijgcildbnlaaGreat
open Go.RowKit Go.ChangeShapes Go.WideShapes Go.ChangeAt
def YQ (W:World) (v:Value):Prop:=∃ao len cap,v=.slice ao len cap∧BC.G8 W ao len
def Yb (W:World) (v:Value):Prop:=∃x:BC.Lt,x.Good W∧v=.agg x.cells
end Go.Proofs.YtooijgcildbnlaaGreat
namespace Go.Proofs.YtooijgcildbnlaaGreat.Store
open Go.RowKit Go.Proofs.YtooijgcildbnlaaGreat.ShaW Go.Proofs.YtooijgcildbnlaaGreat.Path Go.Proofs.YtooijgcildbnlaaGreat.BC
section
variable {w0 w w' : World} {c s b n i : Nat} {σ : AA Nd} {root : Int} {L : AN} {A : List (Int×AN)} {G : Nat→Prop}
def Ya (w w':World) (n:Nat) (e:Ending):Prop:=∃(c s b:Nat),e=.returned (.tuple #[.pointer (some ⟨c,0,none⟩),.bool true])∧U2 w w' c s b ⟨n,[],[]⟩ ⟨n,[],[]⟩ 0 [] (fun k=>k<w.heap.size)
end
def Small (W:World) (ao:Option Addr) (len:Nat):Prop:=∀i,i<len→∃(g off:Nat) (x:Lt),ao=some ⟨g,off,none⟩∧x.Good W∧Bz W g (off+i*35) x.cells∧x.val.length≤2000
section
variable {w0 w w' : World} {c s b n i : Nat} {σ : AA Nd} {root : Int} {L : AN} {A : List (Int×AN)} {G : Nat→Prop}
def Xt (w w':World) (room:Int) (ao:Option Addr) (len:Nat) (e:Ending):Prop:=∃B,e=.returned (.bool B)∧w=w'∧(B=false→1≤room∧room≤5000∧len≤16∧Small w ao len)
def YU (w w':World) (n len:Nat) (e:Ending):Prop:=∃(c s b:Nat) (σ:AA Nd) (root:Int) (L:AN) (A:List (Int×AN)),
 e=.returned (.tuple #[.pointer (some ⟨c,0,none⟩),.bool true])∧U2 w w' c s b σ σ root (PN A) (fun k=>k<w.heap.size)∧Sce σ root L A n len
end
end Go.Proofs.YtooijgcildbnlaaGreat.Store
namespace Go.Proofs.YtooijgcildbnlaaGreat.Store
open Go.RowKit Go.Proofs.YtooijgcildbnlaaGreat.ShaW Go.Proofs.YtooijgcildbnlaaGreat.Path
open Go.Maps (Keyed keyOf_int_mk)
section
variable {σ : AA Nd} {R : List Int} {k k1 k2 : Wk} {a b x : Int}
def Up (l:List Int):Prop:=∀i x y,l[i]?=some x→l[i+1]?=some y→x<y
structure Yz (σ:AA Nd) (la lb lc ld:List Int):Prop where
 small:∀x,x∈la∨x∈lb∨x∈lc∨x∈ld→0≤x∧x≤65536
 both:∀x,x∈lc↔x∈la∨x∈lb
 nodup:lc.Nodup
 upc:Up lc
 upd:Up ld
 lost:∀x∈ld,has σ x=true∧x∉lc
 all:lc.length+ld.length=σ.used
 lenA:la.length≤65536
 lenB:lb.length≤65536
def Zc (x:Int) (S:List Int):List Int:=if x∈S then S else x::S
noncomputable abbrev Ww:Value→Option (DataW Value×List MemPlace):=plainElem Tryz.prog 4
structure ZS (w:World) (b n:Nat) (S:List Int):Prop where
 ex:∃D,w.ownsMap Tryz.prog 3 Ww b n D∧Maps.size D=S.length∧∀x:Int,D.atKey (ky x) (.lit (.bool false))=.lit (.bool (decide (x∈S)))∧Maps.has D (ky x)=decide (x∈S)
end
section
variable {w : World} {s : Nat} {F : Nat→Prop} {σ : AA Nd} {R : List Int} {ao : Option Addr}
def Xw (w w':World) (σ:AA Nd) (R:List Int) (pick:Wk→List Int) (e:Ending):Prop :=
 ∃(qo:Option Addr) (qc:Nat) (l:List Int),e=.returned (.tuple #[.slice qo l.length qc,.int .i64 (chk σ R)])∧w'.ownsRow w.heap.size 3 1 (.slice qo l.length qc) l.length (DO l)∧Adds w w' ∧
  ((chk σ R≠0∧l = [])∨(chk σ R=0∧∃k,Wanting σ R k.todo.length k∧l=pick k))
end
end Go.Proofs.YtooijgcildbnlaaGreat.Store
namespace Go.Proofs.YtooijgcildbnlaaGreat.Store
open Go.RowKit Go.Proofs.YtooijgcildbnlaaGreat.ShaW Go.Proofs.YtooijgcildbnlaaGreat.Path
def L2:AN:=upd (upd [] (Wv 0) []) (Wv 128) []
structure Pk (σ:AA Nd) (r:Int):Prop where
 db:Db σ r L2
 sole:XL σ r
 live:Store.live σ=3
 span:σ.slots.length≤516
 ne:r≠0

end Go.Proofs.YtooijgcildbnlaaGreat.Store
namespace Go.Proofs.YtooijgcildbnlaaGreat.Law12
open Go.RowKit Go.Proofs.YtooijgcildbnlaaGreat.ShaW Go.Proofs.YtooijgcildbnlaaGreat.Path Go.Proofs.YtooijgcildbnlaaGreat.Store Go.Proofs.YtooijgcildbnlaaGreat.BC
structure At2 (w0 w:World) (s:Nat) (r:Int):Prop where
 ex:∃σ F,At w s F σ∧Pk σ r

end Go.Proofs.YtooijgcildbnlaaGreat.Law12
namespace Go.Proofs.YtooijgcildbnlaaGreat.Store
open Go.RowKit Go.Proofs.YtooijgcildbnlaaGreat.ShaW Go.Proofs.YtooijgcildbnlaaGreat.Path Go.Proofs.YtooijgcildbnlaaGreat.BC
section
variable {w : World}
def Y2 (w:World) (ao:Option Addr) (n cap:Nat) (l:List Int):Prop:=w.ownsRow 0 3 1 (.slice ao n cap) n (DO l)∧l.length=n
end
end Go.Proofs.YtooijgcildbnlaaGreat.Store
namespace Go.Proofs.YtooijgcildbnlaaGreat
open Go.RowKit
def ZY {α:Type} (F:Fence) (n:Nat) (P:Program) (g:Nat) (lb:Array Value) (encs:α→Array Value) (Y:List α→α→World→Prop) (Kp:World→World→Prop) (S Sp:List α→Prop) (N:Nat) (w:World):Prop :=
 ∀(l:Nat) (J Jx:List α→World→Prop) (W:World),Below w.heap.size w W→AbidesFrom W.heap.size J→AbidesFrom W.heap.size Jx →
  (∀pre x W1,J pre W1→Y pre x W1→pre.length<N→YieldAt F (n-1) P l (encs x) W1 fun e W' =>
   (e=.returned (.bool true)∧J (pre ++ [x]) W'∧Kp W1 W')∨(e=.returned (.bool false)∧Jx (pre ++ [x]) W')) →
  J [] W→CallsIn F n P g (#[.func (.yield l) #[] #[]]++lb) W fun e W'=>(∃v,e=.returned v)∧((∃xs,S xs∧J xs W')∨(∃pre,Sp pre∧Jx pre W'))
variable {F : Fence} {n : Nat} {P : Program}
end Go.Proofs.YtooijgcildbnlaaGreat
namespace Go.Proofs.YtooijgcildbnlaaGreat.Store
open Go.RowKit Go.Sort Go.Proofs.YtooijgcildbnlaaGreat.ShaW Go.Proofs.YtooijgcildbnlaaGreat.Path Go.Proofs.YtooijgcildbnlaaGreat.BC
def Yv (n0:Nat) (out:List Pr) (pre:List Pr) (x:Pr) (W:World):Prop :=
 ∃y,out[pre.length]?=some y∧x.ent=y.ent∧x.key.length=32∧x.val.length≤1024∧Nz W n0 x.vv x.val
end Go.Proofs.YtooijgcildbnlaaGreat.Store
namespace Go.Proofs.YtooijgcildbnlaaGreat
open Go.RowKit
section
variable {F : Fence} {n : Nat} {P : Program} {ops : Array Oper} {Q : Exit→Act→World→Prop} {md : Region.Mode} {S : World→Prop}
def WQ (P:Program) (ops:Array Oper) (S:World→Prop) (o:Oper) (v:Value) (a:Act):Prop:=YieldsIf P ops S o v a∧∀w,o.about P w a.eval=none
def WJ (F:Fence) (n:Nat) (P:Program) (md:Region.Mode) (ops:Array Oper) (Q:Exit→Act→World→Prop) (S:World→Prop):Nat→Array Bool→Act→World→Prop
 | 0,listed,a,w=>Region.ready md ops listed = []∧Q .normal a w
 | f+1,listed,a,w=>Region.ready md ops listed ≠ []∧∀i∈Region.ready md ops listed,wpOpIn F n P ops Q i (fun a' w'=>S w'∧WJ F n P md ops Q S f (listed.setIfInBounds i true) a' w') a w
def WI (ops:Array Oper):Bool:=ops.all fun o=>match o.op with | .defer _=>false|_=>true
def Oa (F:Fence) (n:Nat) (P:Program) (l:List Oper) (Q:Exit→Act→World→Prop) (S:World→Prop):List (Nat×Bool)→Act→World→Prop
 | [],a,w=>Q .normal a w
 | (i,false)::r,a,w=>∃o v,l[i]?=some o∧WQ P l.toArray S o v a∧Oa F n P l Q S r (a.put o.dst v) w
 | (i,true)::r,a,w=>wpOpIn F n P l.toArray Q i (fun a' w'=>S w'∧Oa F n P l Q S r a' w') a w
def P9 (md:Region.Mode) (ops:Array Oper):List (Nat×Bool)→Array Bool→Bool
 | [],listed=>decide (Region.ready md ops listed = [])
 | (i,false)::r,listed=>(Region.ready md ops listed).contains i&&Region.free md ops listed i&&P9 md ops r (listed.setIfInBounds i true)
 | (i,true)::r,listed=>decide (Region.ready md ops listed = [i])&&P9 md ops r (listed.setIfInBounds i true)
def Xm (md:Region.Mode) (ops:Array Oper) (p:List (Nat×Bool)):Bool:=Region.noSelect ops&&WI ops&&decide (p.length=ops.size)&&P9 md ops p (Array.replicate ops.size false)
end
end Go.Proofs.YtooijgcildbnlaaGreat
namespace Go.Proofs.YtooijgcildbnlaaGreat.Store
open Go.RowKit Go.Sort Go.Proofs.YtooijgcildbnlaaGreat.ShaW Go.Proofs.YtooijgcildbnlaaGreat.Path Go.Proofs.YtooijgcildbnlaaGreat.BC
section
variable {w : World} {s : Nat} {F : Nat→Prop} {σ : AA Nd} {root : Int} {t : Tr}
def ZE (base:Nat) (w:World) (e:AN) (q:Value):Prop:=∃(b:Nat) (v:Value) (out:List Pr),q=.func (.func 166) #[] #[.pointer (some ⟨b,0,none⟩)]∧base≤b∧w.heap[b]?=some (.cells #[v] 33 (0,0))∧Told base w v out∧out.map Pr.ent=e∧v.ownBlock≠some b∧∀x∈out,x.vv.ownBlock≠some b
theorem Told.YC {b b':Nat} {v:Value} {out:List Pr} (h:Told b w v out) (hb:b'≤b):Told b' w v out :=
 ⟨(show RowP _ _ _ _ from h.row).base (fun k hk=>Nat.le_trans hb (h.row.lt k hk).1),fun x hx=>by obtain⟨p,q,r⟩:=h.vals x hx;exact⟨p,q,fun k hk=>⟨Nat.le_trans hb (r k hk).1,(r k hk).2⟩⟩,h.apart⟩
end
end Go.Proofs.YtooijgcildbnlaaGreat.Store
namespace Go.Proofs.YtooijgcildbnlaaGreat.Store
open Go.RowKit Go.Shelf Go.Sort Go.Proofs.YtooijgcildbnlaaGreat.ShaW Go.Proofs.YtooijgcildbnlaaGreat.Path Go.Proofs.YtooijgcildbnlaaGreat.BC
attribute [local go_sem] Oper.semAt_some
structure GoI (w:World) (wv:Value) (stop:Int) (m:Nat) (W:World):Prop where
 adds:Adds w W
 want:W.heap[w.heap.size]?=some (.cells #[wv] 33 (0,0))
 stop:W.heap[w.heap.size+1]?=some (.cells #[.int .i64 stop] 3 (0,0))
 ans:W.heap[w.heap.size+2]?=some (.cells #[.bool false] 4 (0,0))
 cnt:W.heap[w.heap.size+3]?=some (.cells #[.int .i64 (m:Nat)] 3 (0,0))
def GoX (w:World) (c:Code) (W:World):Prop:=c=.ret∧Adds w W∧W.heap[w.heap.size+2]?=some (.cells #[.bool true] 4 (0,0))
def Vi (w:World) (q wv:Value) (stop:Int) (p:Nat) (k:Array Value) (v:Value):Array Value :=
 #[q,wv,.int .i64 stop,undef,.pointer (some ⟨w.heap.size,0,none⟩),.pointer (some ⟨w.heap.size+1,0,none⟩),.pointer (some ⟨w.heap.size+1+1,0,none⟩),.pointer (some ⟨w.heap.size+1+1+1,0,none⟩),.pointer (some ⟨p,0,none⟩),v,q,.bool false,q,.agg k,v,
  undef,undef,undef,undef,undef,undef,undef,undef,undef,undef,undef,undef,undef,undef,undef,undef,undef,undef,undef,undef,undef,undef,undef,undef,undef,undef,undef,undef,undef,undef,undef,undef,undef,undef]
structure GoB (w:World) (q wv:Value) (stop:Int) (out:List Pr) (pre:List Pr) (x:Pr) (a:Act) (p:Nat) (W:World):Prop where
 act:a = { tmps:=Vi w q wv stop p (AJ x.key) x.vv,defers := [] }
 inv:GoI w wv stop pre.length W
 yv:Yv w.heap.size out pre x W
 box:W.heap[p]?=some (.cells (AJ x.key) 24 (0,0))
 far:w.heap.size+4≤p
attribute [local go_sem] Oper.semAt_some
theorem RN (w:World) (l:List Int):Cb (w.alloc (.cells (DO l).toArray 3)) (some ⟨w.heap.size,0,none⟩) l:=fun i x hx=>by
 refine⟨_,_,rfl,?_⟩;rw[Nat.zero_add];refine AF (heap_alloc_new w _) ?_;simp[DO,hx]

end Go.Proofs.YtooijgcildbnlaaGreat.Store
namespace Go.Proofs.YtooijgcildbnlaaGreat.Store
open Go.RowKit Go.Sort Go.Proofs.YtooijgcildbnlaaGreat.ShaW Go.Proofs.YtooijgcildbnlaaGreat.Path Go.Proofs.YtooijgcildbnlaaGreat.BC
abbrev ZV (n0:Nat) (G:Nat→Prop) (A B:World):Prop:=Ch (fun k=>n0≤k∨G k) A B
end Go.Proofs.YtooijgcildbnlaaGreat.Store
namespace Go.Proofs.YtooijgcildbnlaaGreat.Store
open Go.RowKit Go.Proofs.YtooijgcildbnlaaGreat.ShaW Go.Proofs.YtooijgcildbnlaaGreat.Path
section
variable {σ : AA Nd} {R : List (Int×AN)} {l l' : List Int} {k k' : Wk} {x h : Int}
structure Km (σ:AA Nd) (l:List Int):Prop where
 good:Good σ
 held:∀k,k≠0→Store.held σ k=(l.count k:Nat)
theorem OG (R:List (Int×AN)) (k:Int):roots R k=(R.map Prod.fst).count k:=by
 unfold roots;rw[List.count,List.countP_map];rfl
theorem Roots.says (h:Roots σ R) (hl:∀k,k≠0→l.count k=(R.map Prod.fst).count k):Km σ l:=⟨h.good,fun k hk=>by rw[h.held k hk,OG,hl k hk]⟩
theorem Km.mem (S:Km σ l) (p:Int) (hp:1≤Store.held σ p):p∈l:=by
 have h0:p≠0:=fun e=>by rw[e,Pj] at hp;omega
 rw[S.held p h0] at hp;exact List.count_pos_iff.1 (by omega)
theorem PZ {h:Int} {y:Nd×Nat} (hy:σ.get? h=some y):σ.count h=y.2:=by unfold AA.count;rw[hy];rfl
theorem Km.cnt (S:Km σ l) (W:Wanting σ l k.todo.length k) (hx:has σ h=true):k.cnt h=σ.count h:=by
 obtain⟨y,hy⟩:=KJ hx;have h1:=W.count S.good (S.mem) hy;rw[S.held h (GP hy)] at h1;rw[PZ hy];omega
theorem N6 {n:Nat} (hn:n∈Ad σ):has σ (n:Int)=true:=by
 obtain⟨y,hy⟩:=(Cl (n:Int)).2 ⟨n,hn,rfl⟩;exact Vl hy
theorem Km.Lf (S:Km σ l) (W:Wanting σ l k.todo.length k):Lf σ k.cnt = []:=by
 unfold Store.Lf GR;refine List.filterMap_eq_nil_iff.2 fun n hn=>?_
 rw[if_pos (by rw[S.cnt W (N6 hn)])]
theorem Km.lost (S:Km σ l) (W:Wanting σ l k.todo.length k):GW k.cnt (Ad σ) = []:=by
 unfold GW;rw[List.filter_eq_nil_iff.2 fun n hn=>?_]
 · rfl
 obtain⟨y,hy⟩:=(Cl (n:Int)).2 ⟨n,hn,rfl⟩;have:=(W.mem (n:Int)).1 (W.full S.good S.mem hy);simp;omega
end
end Go.Proofs.YtooijgcildbnlaaGreat.Store
namespace Go.Proofs.YtooijgcildbnlaaGreat.Store
open Go.RowKit Go.Shelf Go.Sort Go.Proofs.YtooijgcildbnlaaGreat.ShaW Go.Proofs.YtooijgcildbnlaaGreat.Path Go.Proofs.YtooijgcildbnlaaGreat.BC
attribute [local go_sem] Oper.semAt_some
theorem RL (t:Tr) (hl:∀e∈t.ents,e.1.length=32):t.from (List.replicate 32 0)=t.ents:=by
 unfold Tr.from;refine List.filter_eq_self.2 fun e he=>?_
 have:=MV e.1;rw[hl e he] at this;unfold geK;rw[Bool.not_eq_true',decide_eq_false_iff_not];exact this
theorem Q4 {w:World} {b:Nat} {v:Value} {out:List Pr} (h:RowP w b v out) (hg:∀x∈out,x.Good w):∃ao cap,v=.slice ao out.length cap∧BA w ao out:=by
 obtain⟨ao,cap,rfl⟩:=h.form;refine⟨ao,cap,rfl,hg,fun i x hx=>?_⟩;have hl:0<out.length:=by have:=(List.getElem?_eq_some_iff.1 hx).1;omega
 obtain⟨g,cap',cur,e1,_,hrow,hsz,hc,_⟩:=h.open (fun x hx=>(hg x hx).key) hl
 injection e1 with e1 _ _;subst e1;refine⟨g,0,rfl,cur,_,_,hrow,?_,?_⟩
 · rw[Pr.size (hg x (List.mem_of_getElem? hx)).key]
   have:=(List.getElem?_eq_some_iff.1 hx).1;omega
 rw[Pr.size (hg x (List.mem_of_getElem? hx)).key,Nat.zero_add];exact hc i x hx
structure SdI (w3:World) (B7:Nat) (pre:List Pr) (v:Value) (W:World):Prop where
 ch:Ch (fun k=>k=B7) w3 W
 r7:W.heap[B7]?=some (.cells #[v] 33 (0,0))
 row:RowP W w3.heap.size v pre
 vals:∀x∈pre,x.key.length=32∧Nz W w3.heap.size x.vv x.val

end Go.Proofs.YtooijgcildbnlaaGreat.Store
namespace Go.Proofs.YtooijgcildbnlaaGreat.Store
open Go.RowKit Go.Proofs.YtooijgcildbnlaaGreat.ShaW Go.Proofs.YtooijgcildbnlaaGreat.Path Go.Proofs.YtooijgcildbnlaaGreat.BC
def YX (root:Int) (A:List (Int×AN)):List Int:=PN A++(if root=0 then [] else [root])
structure YV (σ:AA Nd) (R:List Int):Prop where
 says:Km σ R
 chk:∀l:List Int,l.Sublist R→Store.chk σ l=0
 each:∀r∈R,∃t,Rep (sk σ) r 0 t∧Ao σ r=0∧t.leaves≤4096

end Go.Proofs.YtooijgcildbnlaaGreat.Store
namespace Go.Proofs.YtooijgcildbnlaaGreat.Law15
open Go.RowKit Go.Sort Go.Proofs.YtooijgcildbnlaaGreat.ShaW Go.Proofs.YtooijgcildbnlaaGreat.Path Go.Proofs.YtooijgcildbnlaaGreat.Store Go.Proofs.YtooijgcildbnlaaGreat.BC Go.Proofs.YtooijgcildbnlaaGreat.Law14
def Ds (M:Nmd):List (List UInt8) := []::EK (Dp M)
theorem Gs (M:Nmd):(Ds M).length=M.length+1:=by unfold Ds;rw[List.length_cons,GB,Ej]
def C7 (root:Int) (M:Nmd) (x:List UInt8):Int:=if x = [] then root else (Dp M).get x
def Gm (L:AN) (M:Nmd) (x:List UInt8):AN:=if x = [] then L else ((M.find? fun p=>decide (p.1=x)).map fun p=>p.2.2).getD []
def DA (root:Int) (M:Nmd) (l:List (List UInt8)):List Int:=(l.map (C7 root M)).filter fun r => !decide (r=0)
theorem Nv (root:Int) (M:Nmd) (l:List (List UInt8)) (x:List UInt8):DA root M (l ++ [x])=DA root M l++(if C7 root M x=0 then [] else [C7 root M x]):=by
 unfold DA;rw[List.map_append,List.filter_append]
 congr 1
 by_cases h:C7 root M x=0
 · simp[h]
 simp[h]
theorem Kq (root:Int) (M:Nmd) (l:List (List UInt8)):(DA root M l).length≤l.length:=by
 unfold DA;refine Nat.le_trans (List.length_filter_le _ _) ?_;rw[List.length_map];exact Nat.le_refl _
theorem M7 {root:Int} {L:AN} {M:Nmd} (hn:(DB M).Nodup) (he : []∉DB M) (k:Int) (hk:k≠0):(DA root M (Ds M)).count k=(((root,L)::GL M).map Prod.fst).count k:=by
 have h1:(DB M).map (C7 root M)=(GL M).map Prod.fst:=by
  unfold DB GL;rw[List.map_map,List.map_map];refine List.map_congr_left fun p hp=>?_
  have hp':p.1 ≠ []:=fun e=>he (by rw[←e];exact List.mem_map_of_mem hp)
  show C7 root M p.1=p.2.1
  unfold C7;rw[if_neg hp',Ei hn hp]
 have h2:((EK (Dp M)).map (C7 root M)).Perm ((GL M).map Prod.fst):=by
  rw[←h1, ←Bu];exact(List.mergeSort_perm _ leB).map _
 unfold DA Ds;rw[List.count_filter (by simpa using hk),List.map_cons,List.map_cons,show C7 root M []=root from if_pos rfl];exact((h2.cons root).count_eq k)
theorem Hdl.C7 {root:Int} {M:Nmd} {x:List UInt8} {hh er:Int} (h:Hdl root M x hh er) (hn:(DB M).Nodup) (hx:x∈Ds M):er=0∧hh=C7 root M x:=by
 rcases h with⟨rfl,rfl,rfl⟩|⟨h1,h2,_⟩|⟨h1,rfl,p,hp,rfl,rfl⟩
 · exact⟨rfl,(if_pos rfl).symm⟩
 · rcases List.mem_cons.1 hx with e|e
   · exact absurd e h1
   obtain⟨p,hp,e⟩:=FA e;exact absurd (by rw[←e];exact List.mem_map_of_mem hp) h2
 exact⟨rfl,by unfold Law15.C7;rw[if_neg h1,Ei hn hp]⟩
theorem Je {root:Int} {L:AN} {M:Nmd} {x:List UInt8} (hn:(DB M).Nodup) (hx:x∈Ds M):(C7 root M x,Gm L M x)∈(root,L)::GL M:=by
 by_cases h0:x = []
 · subst h0
   unfold C7 Gm;rw[if_pos rfl,if_pos rfl];exact List.mem_cons_self ..
 have hx':x∈EK (Dp M):=(List.mem_cons.1 hx).resolve_left h0;obtain⟨p,hp,rfl⟩:=FA hx'
 have hf:(M.find? fun q=>decide (q.1=p.1))=some p:=by
  clear hx hx' h0
  induction M with
  | nil=>cases hp
  | cons q M ih =>
   obtain⟨n1,n2⟩:=List.nodup_cons.1 (show(q.1::DB M).Nodup from hn);rcases List.mem_cons.1 hp with rfl|hp
   · rw[List.find?_cons_of_pos (by simp)]
   rw[List.find?_cons_of_neg (by simp;exact fun e=>n1 (by rw[e];exact List.mem_map_of_mem hp))];exact ih n2 hp
 unfold C7 Gm;rw[if_neg h0,if_neg h0,Ei hn hp,hf];exact List.mem_cons_of_mem _ (List.mem_map_of_mem (f:=fun p:List UInt8×Int×AN=>(p.2.1,p.2.2)) hp)
theorem Pp {root:Int} {L:AN} {M:Nmd} (hn:(DB M).Nodup) {r:Int} (hr:r∈DA root M (Ds M)):∃L',(r,L')∈(root,L)::GL M∧r≠0:=by
 unfold DA at hr;obtain⟨h1,h2⟩:=List.mem_filter.1 hr;obtain⟨x,hx,rfl⟩:=List.mem_map.1 h1;exact⟨_,Je hn hx,by simpa using h2⟩
theorem Roots.chk {σ:AA Nd} {R:List (Int×AN)} (h:Roots σ R) {l:List Int} (hl:l.length≤64) (hm:∀r∈l,∃L',(r,L')∈R):Store.chk σ l=0:=by
 unfold Store.chk;rw[if_neg (by omega)];refine Hi.2 fun x hx=>?_
 obtain⟨L',hm⟩:=hm x hx;exact CE (h.db hm).hand
end Go.Proofs.YtooijgcildbnlaaGreat.Law15
namespace Go.Proofs.YtooijgcildbnlaaGreat.Store
open Go.RowKit Go.Sort Go.Proofs.YtooijgcildbnlaaGreat.ShaW Go.Proofs.YtooijgcildbnlaaGreat.Path
theorem SJ:∃i,Tryz.prog.info? 9=some i∧i.zero=some (.string ByteArray.empty)∧i.size=1∧i.bytes=16:=by
 obtain⟨i,h1,h2⟩:=Option.map_eq_some_iff.1 (by kernel_rfl:(Tryz.prog.info? 9).map (fun i=>(i.zero,i.size,i.bytes))=some (some (.string ByteArray.empty),1,16));simp only[Prod.mk.injEq] at h2;exact⟨i,h1,h2.1,h2.2.1,h2.2.2⟩
theorem Ed {w:World} {ops:Array Oper} {rest:List Oper} {o:Oper} {a:Act} {Q:Exit→Act→World→Prop} (hgd:o.guard=none) (s x:Operand)
 (ho:o.op=.call { callee:=.builtin .append,args:=#[s,x],argTypes:=#[90,90] }) (v:Value) (n:Nat) (xs:List (List UInt8)) (hs:a.eval s=v) (hown:w.ownsRow 0 9 1 v n (xs.map encStr))
 (ao:Option Addr) (m c:Nat) (l:List (List UInt8)) (hx:a.eval x=.slice ao m c) (hI:Jk w ao (l.map encStr)) (hm:l.length=m) (hb:n+m≤1000000)
 (h:∀v' w',w'.ownsRow 0 9 1 v' (n+m) ((xs++l).map encStr)→w.grownBy w' v.ownBlock→(v'.ownBlock=v.ownBlock∨∀k,v'.ownBlock=some k→w.heap.size≤k)→wpList Tryz.prog ops Q rest (a.put o.dst v') w'):wpList Tryz.prog ops Q (o::rest) a w:=by
 obtain⟨i0,p1,p2,p3,p4⟩:=SJ;rcases Nat.eq_zero_or_pos m with h0|h0
 · have hnil:l = []:=List.eq_nil_of_length_eq_zero (by omega)
   subst hnil;subst h0
   obtain⟨base,cap,e,hle⟩:∃base cap,v=.slice base n cap∧n≤cap:=by
    rcases hown.2 with⟨rfl,h1⟩|⟨g,cap,cur,rfl,_,_,h3,_⟩
    · exact⟨none,0,by rw[h1],by omega⟩
    exact⟨_,cap,rfl,h3⟩
   have hsrc:Src Tryz.prog i0.size 90 (.slice ao 0 c) 0 [] w:=by
    cases ao with
    | none=>exact Src.ofNil w Tryz.underlying90 c
    | some ad=>exact Src.ofSlice w Tryz.underlying90 ad 0 c [] (by simp) (fun j u hu=>by simp at hu) (fun u hu=>by cases hu)
   refine wpList_plain hgd fun _ hK=>?_
   have hrun:=run_append_nothing (P:=Tryz.prog) w 90 90 o.type 9 i0 Tryz.underlying90 p1 base n cap hle _ hsrc;subst e;unfold Oper.wp;simp[execOp,ho,resolve,invoke,builtin,hs,hx,hrun,Result.andThen];exact hK _ _ (h _ w (by rw[List.append_nil];exact hown) ⟨rfl,rfl,rfl,Nat.le_refl _,fun _ _ _=>rfl⟩ (.inl rfl))
 obtain⟨g,off,rfl,_⟩:=hI 0 (encStr l[0]) (by rw[List.getElem?_map,List.getElem?_eq_getElem (by omega)];rfl);refine Ar hgd s x 90 ho 9 i0 (.string ByteArray.empty) 1 16 Tryz.underlying90 p1 p2 p3 p4 rfl (by decide) v n (xs.map encStr) hs hown ⟨g,off,none⟩ m c (l.map encStr) hx (by simp[hm]) (fun j u hu=>?_) (fun u hu=>?_) (by unfold maxLen;omega) (by omega) ?_
 · obtain⟨g',off',e,hc⟩:=hI j u hu
   cases e;rw[add_plain];exact hc
 · obtain⟨y,_,rfl⟩:=List.mem_map.1 hu
   rfl
 intro v' w' q1 q2 q3;exact h v' w' (by rw[List.map_append];exact q1) q2 q3
theorem Qn (w:World) (x:List UInt8):(w.alloc (.cells #[encStr x] 9)).ownsRow 0 9 1 (.slice (some ⟨w.heap.size,0,none⟩) 1 1) 1 ([x].map encStr) :=
 ⟨by simp,.inr ⟨w.heap.size,1, #[encStr x],rfl,Nat.zero_le _,heap_alloc_new _ _,Nat.le_refl _,by unfold maxLen;decide,rfl,by simp⟩⟩
end Go.Proofs.YtooijgcildbnlaaGreat.Store
namespace Go.Proofs.YtooijgcildbnlaaGreat.Law15
open Go.RowKit Go.Sort Go.Proofs.YtooijgcildbnlaaGreat.ShaW Go.Proofs.YtooijgcildbnlaaGreat.Path Go.Proofs.YtooijgcildbnlaaGreat.Store Go.Proofs.YtooijgcildbnlaaGreat.BC Go.Proofs.YtooijgcildbnlaaGreat.Law14
section
variable {w0 w w' : World} {d v s room tn : Nat} {G : Nat→Prop} {σ σ' : AA Nd} {root r : Int} {L L' : AN} {M M' : Nmd}
def Io (w:World) (ao:Option Addr) (n:Nat) (M:Nmd):Prop:=Jk w ao ((Ds M).map encStr)∧n=(Ds M).length
theorem Io.cell {ao:Option Addr} {n:Nat} (h:Io w ao n M) {k:Nat} (hk:k<n):∃g off x,ao=some ⟨g,off,none⟩∧(Ds M)[k]?=some x∧x∈Ds M∧w.cell? ⟨g,off+k,none⟩=some (.string (BP x)):=by
 obtain⟨x,hx⟩:∃x,(Ds M)[k]?=some x:=⟨_,List.getElem?_eq_getElem (by have:=h.2;omega)⟩
 obtain⟨g,off,e,hc⟩:=h.1 k (encStr x) (by rw[List.getElem?_map,hx];rfl);exact⟨g,off,x,e,hx,List.mem_of_getElem? hx,hc⟩
def SM (w:World) (root:Int) (M:Nmd) (e:Ending) (w':World):Prop:=∃q m qc,e=.returned (.tuple #[.slice q m qc,.bool true])∧Y2 w' q m qc (DA root M (Ds M))∧Adds w w'
theorem Ha (h:Dct w0 w d v s G room σ root L M tn) {x:List UInt8} (hx:x∈Ds M):x.length≤maxLen:=by
 rcases List.mem_cons.1 hx with rfl|hx
 · exact Nat.zero_le _
 obtain⟨p,hp,rfl⟩:=FA hx;exact h.lens (List.mem_map_of_mem hp)
theorem Sx (h:Dct w0 w d v s G room σ root L M tn) (hl:M.length≤16):Calls Tryz.prog 61 #[.pointer (some ⟨d,0,none⟩)] w (SM w root M):=by
 have hnm:=fun w1 (a:Adds w w1)=>MB (h.adds a) (by omega)
 have hhd:=fun w1 (a:Adds w w1) x (hx:x∈Ds M)=>GM (h.adds a) (Ha h hx)
 have HN:=(hIq hnm hhd)
 have HH:=(hIq h hl)
 obtain⟨ml,hml⟩:∃ml,ml=M.length:=⟨_,rfl⟩
 have HML:=Lib.hid hml;have hn17:ml≤16:=by omega
 clear hnm hhd h hl hml;go_enter Tryz.func61,Tryz.ntmps61;go_wp2_with fail;refine(HN.out.1 _ ((Ch.refl _ _).alloc _)).mono ?_;rintro e w2 ⟨q,rfl,hq,a2⟩;rw[←HML.out] at hq;obtain⟨qo,qc,rfl,hro,hlen⟩:=Jk.own hq;have hl2:(EK (Dp M)).length=ml:=by rw[GB,Ej,HML.out]
 have H2:=(hIq (((Ch.refl (fun _=>False) w).alloc _).trans a2 (fun _=>fEq)) (aIq (a2.owns (Qn w []) (fun _ _ h=>h)) (aIq hro hl2)))
 clear hq hro hlen hl2 a2
 go_upto_region 2 with(first
  | fail
  | (at_builtin;refine Ed rfl _ _ rfl (.slice (some ⟨w.heap.size,0,none⟩) 1 1) 1 [[]] rfl H2.out.2.1 qo ml qc (EK (Dp M)) rfl H2.out.2.2.1 H2.out.2.2.2 (by omega) ?_;intro v' w3 own' grow' loc';have a3:Adds w w3:=H2.out.1.grown grow' (fun k hk=>.inr (by cases hk;exact Nat.le_refl _));obtain⟨no,nc,rfl⟩:=Ab own';have H3:=(hIq a3 own');clear own' grow' loc' a3))
 obtain⟨_,_,e1,hro3,_⟩:=Jk.own H3.out.2;injection e1 with e1 _ _;rw[←e1] at hro3;obtain⟨n,hn⟩:∃n,n=1+ml:=⟨_,rfl⟩
 have hnr:Io w3 no n M:=⟨hro3,by rw[Gs, ←HML.out];omega⟩
 have hnd:=HH.out.1.nd;have A3:=(hIq H3.out.1 (aIq hnr hnd))
 rw[←hn];have hn17':n≤17:=by omega
 clear hro3 e1 hnr hnd H3 H2 hn hn17;go_wp2_with fail;go_loopg [5,6,7,8] n (fun g s5 s6 s7 s8 wr=>∃(k m:Nat) (q:Option Addr) (qc:Nat) (R:List Int),s5=.slice q m qc∧s6=.int .i64 (k:Nat)∧k+g=n∧R=DA root M ((Ds M).take k)∧m=R.length∧wr.ownsRow w3.heap.size 3 1 (.slice q m qc) m (DO R)∧Adds w3 wr)
 case atStart=>exact⟨0,0,none,0,[],rfl,rfl,by omega,rfl,rfl,World.ownsRow_nil ..,Ch.refl _ _⟩
 obtain⟨k,m,q,qc,R,rfl,rfl,hk,hR,hm,hown,hA⟩:=hrel;have HS:=(hIq hown (aIq hA (aIq hR (aIq hm hk))))
 by_cases hkn:k<n
 · have h1:decide ((k:Int)<(n:Int))=true:=decide_eq_true (by omega)
   have h2:(k:Int)<(n:Int):=by omega
   obtain⟨g0,off,x,rfl,hx,hmem,hc⟩:=A3.out.2.1.cell hkn;have hcw:=hA.cell hc id;have hwk:wrap64 ((k:Int)+1)=(k:Int)+1:=by unfold wrap64;omega
   have hhd:=HN.out.2 wr (A3.out.1.trans hA (fun _=>fEq)) x hmem;obtain⟨S,hS⟩:∃S,S=BP x:=⟨_,rfl⟩
   rw[←hS] at hcw hhd
   have hft:DA root M ((Ds M).take (k+1))=R++(if C7 root M x=0 then [] else [C7 root M x]):=by
    rw[List.take_add_one,hx,Option.toList_some,Nv,hR]
   have HX:=(hIq hhd (aIq hmem hft))
   have hm17:m≤17:=by
    rw[hm,hR];exact Nat.le_trans (Kq ..) (by rw[List.length_take];omega)
   clear hk hown hA hx hmem hc hS hft hR hm hhd;go_wp2_with fail;refine HX.out.1.mono ?_;rintro e w4 ⟨hh,er,rfl,rfl,hd⟩;obtain⟨rfl,hrn⟩:=hd.C7 A3.out.2.2 HX.out.2.1;have HR:=Lib.hid hrn;clear hd hrn;by_cases h0:hh=0
   · have b0:(hh != 0)=false:=by simpa using h0
     have H0:=Lib.hid h0;clear h0;go_wp2;go_roundg (n-(k+1))
     case measure=>have:=HS.out.2.2.2.2;omega
     exact⟨k+1,m,q,qc,R,rfl,by first|(simp;done)|(simp[hwk];done),by omega,by rw[HX.out.2.2,if_pos (by rw[←HR.out];exact H0.out),List.append_nil],HS.out.2.2.2.1,HS.out.1,HS.out.2.1⟩
   have b0:(hh != 0)=true:=by simpa using h0
   have H0:=Lib.hid h0
   go_wp2_with (first
    | fail
    | (at_builtin;refine IE rfl _ _ rfl (.slice q m qc) m R rfl ((((Ch.refl (fun _=>False) wr).alloc (.cells (DO [hh]).toArray 3)).owns HS.out.1 (fun _ _ h=>h)).base (fun _ _=>Nat.zero_le _)) (some ⟨wr.heap.size,0,none⟩) 1 1 [hh] rfl (RN wr [hh]) rfl (by omega) ?_;intro v' w4 own' grow' loc';have a4:Adds w3 w4:=(HS.out.2.1.alloc _).grown grow' (fun k hk=>.inr (HS.out.1.lt k hk).1);have own2:=QN (b:=w3.heap.size) own' (fun k hk=>(HS.out.1.lt k hk).1) (HS.out.2.1.alloc _).size loc';obtain⟨qo',qc',rfl⟩:=Ab own';have H4:=(hIq a4 own2);clear own' grow' loc' a4 own2))
   go_roundg (n-(k+1))
   case measure=>have:=HS.out.2.2.2.2;omega
   exact⟨k+1,m+1,qo',qc',R ++ [hh],rfl,by first|(simp;done)|(simp[hwk];done),by omega,by rw[HX.out.2.2,if_neg (by rw[←HR.out];exact H0.out),HR.out],by rw[List.length_append, ←HS.out.2.2.2.1];rfl,H4.out.2,H4.out.1⟩
 obtain rfl:k=n:=by omega
 have h1:decide ((k:Int)<(k:Int))=false:=decide_eq_false (by omega);have h2:¬(k:Int)<(k:Int):=by omega
 have hta:R=DA root M (Ds M):=by rw[hR,List.take_of_length_le (by have:=A3.out.2.1.2;omega)]
 have HTA:=Lib.hid hta;clear hk hown hA hta hR hm;go_wp2;go_ret2;exact⟨q,m,qc,rfl,⟨by rw[←HTA.out];exact HS.out.1.base (fun _ _=>Nat.zero_le _),by rw[←HTA.out,HS.out.2.2.2.1]⟩,A3.out.1.trans HS.out.2.1 (fun _=>fEq)⟩
end
end Go.Proofs.YtooijgcildbnlaaGreat.Law15
