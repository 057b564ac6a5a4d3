/- Laws of the layers below. -/
import Derived.Test.YtooijgcildbnlaaGreatQg12
set_option maxHeartbeats 3200000
set_option maxRecDepth 100000
set_option linter.unusedVariables false
namespace Go.Proofs.YtooijgcildbnlaaGreat.Store
open Go.RowKit Go.Proofs.YtooijgcildbnlaaGreat.ShaW Go.Proofs.YtooijgcildbnlaaGreat.Path
def YC (w:World) (v:Value):Prop:=v=.pointer none∨∃s,v=.pointer (some ⟨s,0,none⟩)∧w.heap[s]?=some (.cells #[.pointer none] 165 (0,0))
def CV:Array Value:=(List.replicate 129 (Value.int .u8 0)).toArray
theorem Cy:(Tryz.prog.info? 115).bind (·.zero)=some (.agg CV)∧(Tryz.prog.info? 115).map (·.size)=some 129∧Tryz.prog.built 115 []=some CV:=⟨by kernel_rfl,by kernel_rfl,by kernel_rfl⟩
theorem LW:∀v∈CV.toList,v.oneCell'=true:=fun v hv=>by
 simp[CV] at hv;subst hv;rfl
section
variable {w0 w : World} {s : Nat} {σ : AD Nd} {F G : Nat→Prop}
def Ym (b0 pb:Nat) (K:Array Value) (ao:Option Addr) (cap:Nat) (l:List Int) (e1:Int) (x y:Bool) (w:World):Prop :=
 w.heap[pb]?=some (.cells #[.slice ao l.length cap,.int .i64 e1,.bool x,.bool y] 286 (0,0)) ∧
 w.heap[b0]?=some (.cells K 24 (0,0))∧w.ownsRow 0 3 1 (.slice ao l.length cap) l.length (hl l)
def Yx (G:Nat→Prop) (b0 pb:Nat) (ao:Option Addr) (n cap:Nat) (k:Nat):Prop:=G k∨k=b0∨k=pb∨(Value.slice ao n cap).ownBlock=some k
theorem But.less {G':Nat→Prop} {w w':World} (h:But G' w w') (hG:∀k,G k→G' k):But G w w':=h.mono (fun k _ hn hg=>hn (hG k hg))
end
section
variable {w0 w : World} {s : Nat} {σ σ' : AD Nd} {F G : Nat→Prop} {root r : Int} {t : Tr} {L : Bi} {key bs : List UInt8}
structure Db (σ:AD Nd) (root:Int) (L:Bi):Prop where
 good:Good σ
 rep:Rep (sk σ) root 0 (tree 256 L)
 nodup:(Dz L).Nodup
 len:∀p∈L,p.1.length=32
 held:root=0∨1≤held σ root
def YT (σ:AD Nd) (root:Int):Prop:=∀k,1≤held σ k→k=root∧held σ k=1
structure Yq (σ σ':AD Nd) (root r:Int) (n:Nat):Prop where
 ne:r≠0
 mine:held σ' r=1∨(r=root∧held σ' r=held σ root)
 only:∀k,1≤held σ' k→k=r∨(1≤held σ k∧(k=root→2≤held σ k))
 others:∀k,k≠root→1≤held σ k→sk σ' k=sk σ k∧held σ' k=held σ k
 live:Store.live σ'≤Store.live σ+n
 total:Store.total σ'≤Store.total σ+600
 room:σ'.room=σ.room
 fresh:r=root∨sk σ r=none
 span:σ'.slots.length≤σ.slots.length+n
 keeps:∀k d t,k≠root→1≤held σ k→Rep (sk σ) k d t→Rep (sk σ') k d t
end
section
variable {w0 w : World} {s : Nat} {σ σ' σ0 σ1 : AD Nd} {F G : Nat→Prop} {root r now : Int} {t : Tr} {L L' : Bi} {key bs : List UInt8} {n : Nat} {R R' : List (Int×Bi)}
structure Step (σ σ':AD Nd) (root r:Int):Prop where
 good:Good σ'
 agree:∀k x,sk σ k=some x→sk σ' k=none∨sk σ' k=some x
 held:∀k,k≠0→Store.held σ' k=Store.held σ k-(if k=root then 1 else 0)+(if k=r then 1 else 0)
def roots (R:List (Int×Bi)) (k:Int):Nat:=R.countP (fun p=>p.1 == k)
structure X6 (σ:AD Nd) (R:List (Int×Bi)):Prop where
 good:Good σ
 held:∀k,k≠0→Store.held σ k=(roots R k:Nat)
 rep:∀p∈R,Rep (sk σ) p.1 0 (tree 256 p.2)
 nodup:∀p∈R,(Dz p.2).Nodup
 len:∀p∈R,∀q∈p.2,q.1.length=32
structure YQ (σ σ':AD Nd) (root r:Int) (n m:Nat):Prop where
 step:Step σ σ' root r
 live:Store.live σ'≤Store.live σ+n
 total:Store.total σ'≤Store.total σ+m
 room:σ'.room=σ.room
end
end Go.Proofs.YtooijgcildbnlaaGreat.Store
