/- Laws of the layers below. -/
import Derived.Test.YtooijgcildbnlaaGreatQj39
import Derived.RangeFuncFrom
import Derived.RangeFuncNested
import Derived.RangeFuncBound
import Derived.RangeFuncCalls
import Derived.RangeFuncLeaves
import Derived.OwnWalkIn
import Derived.TacticsInMore
import Derived.LoopNIn
import Derived.LoopIn
import Derived.Stop.RegionWithIn
import Derived.OrdersIn
import Derived.RangeFuncKeeps
import Derived.Shelf.Abstract
set_option maxHeartbeats 3200000
set_option maxRecDepth 100000
set_option linter.unusedVariables false
namespace Go.Proofs.YtooijgcildbnlaaGreat.Store
open Go.RowKit Go.Proofs.YtooijgcildbnlaaGreat.ShaW Go.Proofs.YtooijgcildbnlaaGreat.Path
def L2:AQ:=upd (upd [] (Vp 0) []) (Vp 128) []
structure Pa (σ:AD Nd) (r:Int):Prop where
 db:Db σ r L2
 sole:Vo σ r
 live:Store.live σ=3
 span:σ.slots.length≤516
 ne:r≠0

end Go.Proofs.YtooijgcildbnlaaGreat.Store
namespace Go.Proofs.YtooijgcildbnlaaGreat.Law12
open Go.RowKit Go.Proofs.YtooijgcildbnlaaGreat.ShaW Go.Proofs.YtooijgcildbnlaaGreat.Path Go.Proofs.YtooijgcildbnlaaGreat.Store Go.Proofs.YtooijgcildbnlaaGreat.BE
structure At2 (w0 w:World) (s:Nat) (r:Int):Prop where
 ex:∃σ F,At w s F σ∧Pa σ r

end Go.Proofs.YtooijgcildbnlaaGreat.Law12
namespace Go.Proofs.YtooijgcildbnlaaGreat.Store
open Go.RowKit Go.Proofs.YtooijgcildbnlaaGreat.ShaW Go.Proofs.YtooijgcildbnlaaGreat.Path Go.Proofs.YtooijgcildbnlaaGreat.BE
section
variable {w : World}
def Xx (w:World) (ao:Option Addr) (n cap:Nat) (l:List Int):Prop:=w.ownsRow 0 3 1 (.slice ao n cap) n (QB l)∧l.length=n
end
end Go.Proofs.YtooijgcildbnlaaGreat.Store
namespace Go.Proofs.YtooijgcildbnlaaGreat
open Go.RowKit
def YT {α:Type} (F:Fence) (n:Nat) (P:Program) (g:Nat) (lb:Array Value) (encs:α→Array Value) (Y:List α→α→World→Prop) (Kp:World→World→Prop) (S Sp:List α→Prop) (N:Nat) (w:World):Prop :=
 ∀(l:Nat) (J Jx:List α→World→Prop) (W:World),Below w.heap.size w W→AbidesFrom W.heap.size J→AbidesFrom W.heap.size Jx →
  (∀pre x W1,J pre W1→Y pre x W1→pre.length<N→YieldAt F (n-1) P l (encs x) W1 fun e W' =>
   (e=.returned (.bool true)∧J (pre ++ [x]) W'∧Kp W1 W')∨(e=.returned (.bool false)∧Jx (pre ++ [x]) W')) →
  J [] W→CallsIn F n P g (#[.func (.yield l) #[] #[]]++lb) W fun e W'=>(∃v,e=.returned v)∧((∃xs,S xs∧J xs W')∨(∃pre,Sp pre∧Jx pre W'))
variable {F : Fence} {n : Nat} {P : Program}
end Go.Proofs.YtooijgcildbnlaaGreat
namespace Go.Proofs.YtooijgcildbnlaaGreat.Store
open Go.RowKit Go.Sort Go.Proofs.YtooijgcildbnlaaGreat.ShaW Go.Proofs.YtooijgcildbnlaaGreat.Path Go.Proofs.YtooijgcildbnlaaGreat.BE
def Yv (n0:Nat) (out:List Pr) (pre:List Pr) (x:Pr) (W:World):Prop :=
 ∃y,out[pre.length]?=some y∧x.ent=y.ent∧x.key.length=32∧x.val.length≤1024∧OC W n0 x.vv x.val
end Go.Proofs.YtooijgcildbnlaaGreat.Store
namespace Go.Proofs.YtooijgcildbnlaaGreat
open Go.RowKit
section
variable {F : Fence} {n : Nat} {P : Program} {ops : Array Oper} {Q : Exit→Act→World→Prop} {md : Region.Mode} {S : World→Prop}
def Uv (P:Program) (ops:Array Oper) (S:World→Prop) (o:Oper) (v:Value) (a:Act):Prop:=YieldsIf P ops S o v a∧∀w,o.about P w a.eval=none
def UW (F:Fence) (n:Nat) (P:Program) (md:Region.Mode) (ops:Array Oper) (Q:Exit→Act→World→Prop) (S:World→Prop):Nat→Array Bool→Act→World→Prop
 | 0,listed,a,w=>Region.ready md ops listed = []∧Q .normal a w
 | f+1,listed,a,w=>Region.ready md ops listed ≠ []∧∀i∈Region.ready md ops listed,wpOpIn F n P ops Q i (fun a' w'=>S w'∧UW F n P md ops Q S f (listed.setIfInBounds i true) a' w') a w
def UP (ops:Array Oper):Bool:=ops.all fun o=>match o.op with | .defer _=>false|_=>true
def N7 (F:Fence) (n:Nat) (P:Program) (l:List Oper) (Q:Exit→Act→World→Prop) (S:World→Prop):List (Nat×Bool)→Act→World→Prop
 | [],a,w=>Q .normal a w
 | (i,false)::r,a,w=>∃o v,l[i]?=some o∧Uv P l.toArray S o v a∧N7 F n P l Q S r (a.put o.dst v) w
 | (i,true)::r,a,w=>wpOpIn F n P l.toArray Q i (fun a' w'=>S w'∧N7 F n P l Q S r a' w') a w
def Od (md:Region.Mode) (ops:Array Oper):List (Nat×Bool)→Array Bool→Bool
 | [],listed=>decide (Region.ready md ops listed = [])
 | (i,false)::r,listed=>(Region.ready md ops listed).contains i&&Region.free md ops listed i&&Od md ops r (listed.setIfInBounds i true)
 | (i,true)::r,listed=>decide (Region.ready md ops listed = [i])&&Od md ops r (listed.setIfInBounds i true)
def XE (md:Region.Mode) (ops:Array Oper) (p:List (Nat×Bool)):Bool:=Region.noSelect ops&&UP ops&&decide (p.length=ops.size)&&Od md ops p (Array.replicate ops.size false)
end
end Go.Proofs.YtooijgcildbnlaaGreat
namespace Go.Proofs.YtooijgcildbnlaaGreat.Store
open Go.RowKit Go.Sort Go.Proofs.YtooijgcildbnlaaGreat.ShaW Go.Proofs.YtooijgcildbnlaaGreat.Path Go.Proofs.YtooijgcildbnlaaGreat.BE
section
variable {w : World} {s : Nat} {F : Nat→Prop} {σ : AD Nd} {root : Int} {t : Tr}
def YJ (base:Nat) (w:World) (e:AQ) (q:Value):Prop:=∃(b:Nat) (v:Value) (out:List Pr),q=.func (.func 166) #[] #[.pointer (some ⟨b,0,none⟩)]∧base≤b∧w.heap[b]?=some (.cells #[v] 33 (0,0))∧Told base w v out∧out.map Pr.ent=e∧v.ownBlock≠some b∧∀x∈out,x.vv.ownBlock≠some b
end
end Go.Proofs.YtooijgcildbnlaaGreat.Store
namespace Go.Proofs.YtooijgcildbnlaaGreat.Store
open Go.RowKit Go.Shelf Go.Sort Go.Proofs.YtooijgcildbnlaaGreat.ShaW Go.Proofs.YtooijgcildbnlaaGreat.Path Go.Proofs.YtooijgcildbnlaaGreat.BE
attribute [local go_sem] Oper.semAt_some
structure GoI (w:World) (wv:Value) (stop:Int) (m:Nat) (W:World):Prop where
 adds:Adds w W
 want:W.heap[w.heap.size]?=some (.cells #[wv] 33 (0,0))
 stop:W.heap[w.heap.size+1]?=some (.cells #[.int .i64 stop] 3 (0,0))
 ans:W.heap[w.heap.size+2]?=some (.cells #[.bool false] 4 (0,0))
 cnt:W.heap[w.heap.size+3]?=some (.cells #[.int .i64 (m:Nat)] 3 (0,0))
def GoX (w:World) (c:Code) (W:World):Prop:=c=.ret∧Adds w W∧W.heap[w.heap.size+2]?=some (.cells #[.bool true] 4 (0,0))
def Ur (w:World) (q wv:Value) (stop:Int) (p:Nat) (k:Array Value) (v:Value):Array Value :=
 #[q,wv,.int .i64 stop,undef,.pointer (some ⟨w.heap.size,0,none⟩),.pointer (some ⟨w.heap.size+1,0,none⟩),.pointer (some ⟨w.heap.size+1+1,0,none⟩),.pointer (some ⟨w.heap.size+1+1+1,0,none⟩),.pointer (some ⟨p,0,none⟩),v,q,.bool false,q,.agg k,v,
  undef,undef,undef,undef,undef,undef,undef,undef,undef,undef,undef,undef,undef,undef,undef,undef,undef,undef,undef,undef,undef,undef,undef,undef,undef,undef,undef,undef,undef,undef,undef,undef,undef,undef]
structure GoB (w:World) (q wv:Value) (stop:Int) (out:List Pr) (pre:List Pr) (x:Pr) (a:Act) (p:Nat) (W:World):Prop where
 act:a = { tmps:=Ur w q wv stop p (AM x.key) x.vv,defers := [] }
 inv:GoI w wv stop pre.length W
 yv:Yv w.heap.size out pre x W
 box:W.heap[p]?=some (.cells (AM x.key) 24 (0,0))
 far:w.heap.size+4≤p
end Go.Proofs.YtooijgcildbnlaaGreat.Store
namespace Go.Proofs.YtooijgcildbnlaaGreat.Store
open Go.RowKit Go.Sort Go.Proofs.YtooijgcildbnlaaGreat.ShaW Go.Proofs.YtooijgcildbnlaaGreat.Path Go.Proofs.YtooijgcildbnlaaGreat.BE
abbrev YU (n0:Nat) (G:Nat→Prop) (A B:World):Prop:=Ch (fun k=>n0≤k∨G k) A B
end Go.Proofs.YtooijgcildbnlaaGreat.Store
namespace Go.Proofs.YtooijgcildbnlaaGreat.Store
open Go.RowKit Go.Proofs.YtooijgcildbnlaaGreat.ShaW Go.Proofs.YtooijgcildbnlaaGreat.Path
section
variable {σ : AD Nd} {R : List (Int×AQ)} {l l' : List Int} {k k' : Wk} {x h : Int}
structure Xp (σ:AD Nd) (l:List Int):Prop where
 good:Good σ
 held:∀k,k≠0→Store.held σ k=(l.count k:Nat)
theorem Vc {h:Int} {y:Nd×Nat} (hy:σ.get? h=some y):σ.count h=y.2:=by unfold AD.count;rw[hy];rfl
end
end Go.Proofs.YtooijgcildbnlaaGreat.Store
namespace Go.Proofs.YtooijgcildbnlaaGreat.Store
open Go.RowKit Go.Shelf Go.Sort Go.Proofs.YtooijgcildbnlaaGreat.ShaW Go.Proofs.YtooijgcildbnlaaGreat.Path Go.Proofs.YtooijgcildbnlaaGreat.BE
attribute [local go_sem] Oper.semAt_some
structure SdI (w3:World) (B7:Nat) (pre:List Pr) (v:Value) (W:World):Prop where
 ch:Ch (fun k=>k=B7) w3 W
 r7:W.heap[B7]?=some (.cells #[v] 33 (0,0))
 row:RowP W w3.heap.size v pre
 vals:∀x∈pre,x.key.length=32∧OC W w3.heap.size x.vv x.val

end Go.Proofs.YtooijgcildbnlaaGreat.Store
namespace Go.Proofs.YtooijgcildbnlaaGreat.Store
open Go.RowKit Go.Proofs.YtooijgcildbnlaaGreat.ShaW Go.Proofs.YtooijgcildbnlaaGreat.Path Go.Proofs.YtooijgcildbnlaaGreat.BE
def XR (root:Int) (A:List (Int×AQ)):List Int:=PD A++(if root=0 then [] else [root])
structure XP (σ:AD Nd) (R:List Int):Prop where
 says:Xp σ R
 chk:∀l:List Int,l.Sublist R→Store.chk σ l=0
 each:∀r∈R,∃t,Rep (sk σ) r 0 t∧BM σ r=0∧t.leaves≤4096

end Go.Proofs.YtooijgcildbnlaaGreat.Store
namespace Go.Proofs.YtooijgcildbnlaaGreat.Law15
open Go.RowKit Go.Sort Go.Proofs.YtooijgcildbnlaaGreat.ShaW Go.Proofs.YtooijgcildbnlaaGreat.Path Go.Proofs.YtooijgcildbnlaaGreat.Store Go.Proofs.YtooijgcildbnlaaGreat.BE Go.Proofs.YtooijgcildbnlaaGreat.Law14
def Gd (M:Nmd):List (List UInt8) := []::FY (ED M)
theorem OE (M:Nmd):(Gd M).length=M.length+1:=by unfold Gd;rw[List.length_cons,IS,FM]
def Es (root:Int) (M:Nmd) (x:List UInt8):Int:=if x = [] then root else (ED M).get x
def D2 (L:AQ) (M:Nmd) (x:List UInt8):AQ:=if x = [] then L else ((M.find? fun p=>decide (p.1=x)).map fun p=>p.2.2).getD []
def Vj (root:Int) (M:Nmd) (l:List (List UInt8)):List Int:=(l.map (Es root M)).filter fun r => !decide (r=0)
theorem Hdl.Es {root:Int} {M:Nmd} {x:List UInt8} {hh er:Int} (h:Hdl root M x hh er) (hn:(Dn M).Nodup) (hx:x∈Gd M):er=0∧hh=Es root M x:=by
 rcases h with⟨rfl,rfl,rfl⟩|⟨h1,h2,_⟩|⟨h1,rfl,p,hp,rfl,rfl⟩
 · exact⟨rfl,(if_pos rfl).symm⟩
 · rcases List.mem_cons.1 hx with e|e
   · exact absurd e h1
   obtain⟨p,hp,e⟩:=Ex e;exact absurd (by rw[←e];exact List.mem_map_of_mem hp) h2
 exact⟨rfl,by unfold Law15.Es;rw[if_neg h1,FJ hn hp]⟩
theorem Lt {root:Int} {L:AQ} {M:Nmd} {x:List UInt8} (hn:(Dn M).Nodup) (hx:x∈Gd M):(Es root M x,D2 L M x)∈(root,L)::Ir M:=by
 by_cases h0:x = []
 · subst h0
   unfold Es D2;rw[if_pos rfl,if_pos rfl];exact List.mem_cons_self ..
 have hx':x∈FY (ED M):=(List.mem_cons.1 hx).resolve_left h0;obtain⟨p,hp,rfl⟩:=Ex hx'
 have hf:(M.find? fun q=>decide (q.1=p.1))=some p:=by
  clear hx hx' h0
  induction M with
  | nil=>cases hp
  | cons q M ih =>
   obtain⟨n1,n2⟩:=List.nodup_cons.1 (show(q.1::Dn M).Nodup from hn);rcases List.mem_cons.1 hp with rfl|hp
   · rw[List.find?_cons_of_pos (by simp)]
   rw[List.find?_cons_of_neg (by simp;exact fun e=>n1 (by rw[e];exact List.mem_map_of_mem hp))];exact ih n2 hp
 unfold Es D2;rw[if_neg h0,if_neg h0,FJ hn hp,hf];exact List.mem_cons_of_mem _ (List.mem_map_of_mem (f:=fun p:List UInt8×Int×AQ=>(p.2.1,p.2.2)) hp)
end Go.Proofs.YtooijgcildbnlaaGreat.Law15
namespace Go.Proofs.YtooijgcildbnlaaGreat.Store
open Go.RowKit Go.Sort Go.Proofs.YtooijgcildbnlaaGreat.ShaW Go.Proofs.YtooijgcildbnlaaGreat.Path
theorem Qr:∃i,Tryz.prog.info? 9=some i∧i.zero=some (.string ByteArray.empty)∧i.size=1∧i.bytes=16:=by
 obtain⟨i,h1,h2⟩:=Option.map_eq_some_iff.1 (by kernel_rfl:(Tryz.prog.info? 9).map (fun i=>(i.zero,i.size,i.bytes))=some (some (.string ByteArray.empty),1,16));simp only[Prod.mk.injEq] at h2;exact⟨i,h1,h2.1,h2.2.1,h2.2.2⟩
theorem Hp {w:World} {ops:Array Oper} {rest:List Oper} {o:Oper} {a:Act} {Q:Exit→Act→World→Prop} (hgd:o.guard=none) (s x:Operand)
 (ho:o.op=.call { callee:=.builtin .append,args:=#[s,x],argTypes:=#[90,90] }) (v:Value) (n:Nat) (xs:List (List UInt8)) (hs:a.eval s=v) (hown:w.ownsRow 0 9 1 v n (xs.map encStr))
 (ao:Option Addr) (m c:Nat) (l:List (List UInt8)) (hx:a.eval x=.slice ao m c) (hI:IJ w ao (l.map encStr)) (hm:l.length=m) (hb:n+m≤1000000)
 (h:∀v' w',w'.ownsRow 0 9 1 v' (n+m) ((xs++l).map encStr)→w.grownBy w' v.ownBlock→(v'.ownBlock=v.ownBlock∨∀k,v'.ownBlock=some k→w.heap.size≤k)→wpList Tryz.prog ops Q rest (a.put o.dst v') w'):wpList Tryz.prog ops Q (o::rest) a w:=by
 obtain⟨i0,p1,p2,p3,p4⟩:=Qr;rcases Nat.eq_zero_or_pos m with h0|h0
 · have hnil:l = []:=List.eq_nil_of_length_eq_zero (by omega)
   subst hnil;subst h0
   obtain⟨base,cap,e,hle⟩:∃base cap,v=.slice base n cap∧n≤cap:=by
    rcases hown.2 with⟨rfl,h1⟩|⟨g,cap,cur,rfl,_,_,h3,_⟩
    · exact⟨none,0,by rw[h1],by omega⟩
    exact⟨_,cap,rfl,h3⟩
   have hsrc:Src Tryz.prog i0.size 90 (.slice ao 0 c) 0 [] w:=by
    cases ao with
    | none=>exact Src.ofNil w Tryz.underlying90 c
    | some ad=>exact Src.ofSlice w Tryz.underlying90 ad 0 c [] (by simp) (fun j u hu=>by simp at hu) (fun u hu=>by cases hu)
   refine wpList_plain hgd fun _ hK=>?_
   have hrun:=run_append_nothing (P:=Tryz.prog) w 90 90 o.type 9 i0 Tryz.underlying90 p1 base n cap hle _ hsrc;subst e;unfold Oper.wp;simp[execOp,ho,resolve,invoke,builtin,hs,hx,hrun,Result.andThen];exact hK _ _ (h _ w (by rw[List.append_nil];exact hown) ⟨rfl,rfl,rfl,Nat.le_refl _,fun _ _ _=>rfl⟩ (.inl rfl))
 obtain⟨g,off,rfl,_⟩:=hI 0 (encStr l[0]) (by rw[List.getElem?_map,List.getElem?_eq_getElem (by omega)];rfl);refine Ap hgd s x 90 ho 9 i0 (.string ByteArray.empty) 1 16 Tryz.underlying90 p1 p2 p3 p4 rfl (by decide) v n (xs.map encStr) hs hown ⟨g,off,none⟩ m c (l.map encStr) hx (by simp[hm]) (fun j u hu=>?_) (fun u hu=>?_) (by unfold maxLen;omega) (by omega) ?_
 · obtain⟨g',off',e,hc⟩:=hI j u hu
   cases e;rw[add_plain];exact hc
 · obtain⟨y,_,rfl⟩:=List.mem_map.1 hu
   rfl
 intro v' w' q1 q2 q3;exact h v' w' (by rw[List.map_append];exact q1) q2 q3
theorem UR (w:World) (x:List UInt8):(w.alloc (.cells #[encStr x] 9)).ownsRow 0 9 1 (.slice (some ⟨w.heap.size,0,none⟩) 1 1) 1 ([x].map encStr) :=
 ⟨by simp,.inr ⟨w.heap.size,1, #[encStr x],rfl,Nat.zero_le _,heap_alloc_new _ _,Nat.le_refl _,by unfold maxLen;decide,rfl,by simp⟩⟩
end Go.Proofs.YtooijgcildbnlaaGreat.Store
namespace Go.Proofs.YtooijgcildbnlaaGreat.Law15
open Go.RowKit Go.Sort Go.Proofs.YtooijgcildbnlaaGreat.ShaW Go.Proofs.YtooijgcildbnlaaGreat.Path Go.Proofs.YtooijgcildbnlaaGreat.Store Go.Proofs.YtooijgcildbnlaaGreat.BE Go.Proofs.YtooijgcildbnlaaGreat.Law14
section
variable {w0 w w' : World} {d v s room tn : Nat} {G : Nat→Prop} {σ σ' : AD Nd} {root r : Int} {L L' : AQ} {M M' : Nmd}
def Ff (w:World) (ao:Option Addr) (n:Nat) (M:Nmd):Prop:=IJ w ao ((Gd M).map encStr)∧n=(Gd M).length
theorem Ff.adds {ao:Option Addr} {n:Nat} (h:Ff w ao n M) (a:Adds w w'):Ff w' ao n M:=⟨h.1.adds a,h.2⟩
theorem Ff.cell {ao:Option Addr} {n:Nat} (h:Ff w ao n M) {k:Nat} (hk:k<n):∃g off x,ao=some ⟨g,off,none⟩∧(Gd M)[k]?=some x∧x∈Gd M∧w.cell? ⟨g,off+k,none⟩=some (.string (BS x)):=by
 obtain⟨x,hx⟩:∃x,(Gd M)[k]?=some x:=⟨_,List.getElem?_eq_getElem (by have:=h.2;omega)⟩
 obtain⟨g,off,e,hc⟩:=h.1 k (encStr x) (by rw[List.getElem?_map,hx];rfl);exact⟨g,off,x,e,hx,List.mem_of_getElem? hx,hc⟩
def WO (w:World) (root:Int) (M:Nmd) (e:Ending) (w':World):Prop:=∃q m qc,e=.returned (.tuple #[.slice q m qc,.bool true])∧Xx w' q m qc (Vj root M (Gd M))∧Adds w w'
theorem Gk (h:Dct w0 w d v s G room σ root L M tn) {x:List UInt8} (hx:x∈Gd M):x.length≤maxLen:=by
 rcases List.mem_cons.1 hx with rfl|hx
 · exact Nat.zero_le _
 obtain⟨p,hp,rfl⟩:=Ex hx;exact h.lens (List.mem_map_of_mem hp)
end
section
variable {w0 w w' : World} {d v s room tn : Nat} {G : Nat→Prop} {σ σ' : AD Nd} {root r : Int} {L L' : AQ} {M M' : Nmd} {x key : List UInt8}
theorem Db.leaves {σ:AD Nd} {root:Int} {L:AQ} (D:Db σ root L):(tree 256 L).leaves=L.length:=by rw[←Tr.D7,D.ents.length_eq]
def Ud (w:World) (root:Int) (L:AQ) (M:Nmd) (x:List UInt8) (e:Ending) (w':World):Prop :=
 Adds w w'∧∃n er hh Lx,e=.returned (.tuple #[.int .i64 n,.int .i64 er])∧NU root L M x hh er Lx∧n=if er=0 then (Lx.length:Int) else 0
theorem T1 (h:Dct w0 w d v s G room σ root L M tn) (hx:x.length≤maxLen):Calls Tryz.prog 44 #[.pointer (some ⟨d,0,none⟩),.string (BS x)] w (Ud w root L M x):=by
 have hhd:=Fl h hx;obtain⟨S,hS⟩:∃S,S=BS x:=⟨_,rfl⟩
 rw[←hS] at hhd ⊢;have HN:=Lib.hid hhd;have HH:=Lib.hid h;have c1:w.cell? ⟨d,1,none⟩=some (.pointer (some ⟨s,0,none⟩)):=AH h.cell rfl;clear hhd hS h;go_enter Tryz.func44,Tryz.ntmps44;go_wp2_with fail;refine HN.out.mono ?_;rintro e w3 ⟨hh,he,rfl,rfl,hd⟩;obtain⟨Lx,hdl⟩:=hd.pick L;have HD:=Lib.hid hdl;clear hd hdl;by_cases h0:he=0
 · have H0:=Lib.hid h0
   have hfd:Calls Tryz.prog 67 #[.pointer (some ⟨s,0,none⟩),.int .i64 hh] w fun e w'=>e=.returned (.tuple #[.int .i64 ((Lx.length:Nat):Int),.int .i64 0])∧Adds w w':=by
    obtain⟨F,hF⟩:=HH.out.at;have D:=HH.out.rts.db (HD.out.mem h0);rw[←Db.leaves D];exact Qf hF HH.out.rts.good D.rep (Cg D.hand)
   have HF:=Lib.hid hfd;obtain⟨n,hn⟩:∃n,n=Lx.length:=⟨_,rfl⟩
   rw[←hn] at HF;have HNN:=Lib.hid hn;subst h0;clear hfd hn;go_wp2_with fail;refine HF.out.mono ?_;rintro e w4 ⟨rfl,a4⟩;have A4:=Lib.hid a4;clear a4;go_wp2;go_ret2;exact⟨A4.out,_,0,hh,Lx,rfl,HD.out,by rw[if_pos rfl,HNN.out]⟩
 have H0:=Lib.hid h0;go_wp2;go_ret2;exact⟨Ch.refl _ _,0,he,hh,Lx,rfl,HD.out,by rw[if_neg H0.out]⟩
def Wz (w:World) (root:Int) (L:AQ) (M:Nmd) (x key:List UInt8) (most:Int) (e:Ending) (w':World):Prop :=
 Adds w w'∧∃v er,e=.returned (.tuple #[v,.int .i64 er])∧((key.length≠32∧er=3∧v=.slice none 0 0)∨(key.length=32∧∃hh he Lx,NU root L M x hh he Lx∧((he≠0∧er=he∧v=.slice none 0 0) ∨
  (he=0∧(most<0∨256<most)∧er=2∧v=.slice none 0 0)∨(he=0∧0≤most∧most≤256∧er=0∧∃out,Store.Told w.heap.size w' v out∧out.map Pr.ent=((tree 256 Lx).from key).take most.toNat))))
end
section
variable {w0 w w' : World} {d v s room tn : Nat} {G : Nat→Prop} {σ : AD Nd} {root : Int} {L : AQ} {M : Nmd} {x key : List UInt8}
theorem NU.all {hh he:Int} {Lx:AQ} (h:NU root L M x hh he Lx) (hn:(Dn M).Nodup) (hx:x∈Gd M):he=0∧hh=Es root M x∧Lx=D2 L M x:=by
 rcases h with⟨rfl,rfl,rfl,rfl⟩|⟨h1,h2,_⟩|⟨h1,rfl,p,hp,rfl,rfl,rfl⟩
 · exact⟨rfl,(if_pos rfl).symm,(if_pos rfl).symm⟩
 · rcases List.mem_cons.1 hx with e|e
   · exact absurd e h1
   obtain⟨p,hp,e⟩:=Ex e;exact absurd (by rw[←e];exact List.mem_map_of_mem hp) h2
 refine⟨rfl,by unfold Es;rw[if_neg h1,FJ hn hp],?_⟩
 have hf:(M.find? fun q=>decide (q.1=p.1))=some p:=by
  clear hx h1
  induction M with
  | nil=>cases hp
  | cons q M ih =>
   obtain⟨n1,n2⟩:=List.nodup_cons.1 (show(q.1::Dn M).Nodup from hn);rcases List.mem_cons.1 hp with rfl|hp
   · rw[List.find?_cons_of_pos (by simp)]
   rw[List.find?_cons_of_neg (by simp;exact fun e=>n1 (by rw[e];exact List.mem_map_of_mem hp))];exact ih n2 hp
 unfold D2;rw[if_neg h1,hf];rfl
theorem Dct.name (h:Dct w0 w d v s G room σ root L M tn) (hx:x∈Gd M):Db σ (Es root M x) (D2 L M x):=h.rts.db (Lt h.nd hx)
def XU (w:World) (L:AQ) (e:Ending) (w':World):Prop:=Adds w w'∧∃ao out cap,e=.returned (.tuple #[.slice ao (List.length out) cap,.int .i64 0])∧Fm w' ao out∧out.length=min L.length 256∧W0 out∧(L.length≤256→tree 256 (out.map Pr.ent)=tree 256 L)∧out.map Pr.ent=((tree 256 L).from (List.replicate 32 0)).take 256
theorem TM (h:Dct w0 w d v s G room σ root L M tn) (hx:x∈Gd M):Calls Tryz.prog 44 #[.pointer (some ⟨d,0,none⟩),.string (BS x)] w fun e w'=>e=.returned (.tuple #[.int .i64 (((D2 L M x).length:Nat):Int),.int .i64 0])∧Adds w w':=by
 refine(T1 h (Gk h hx)).mono ?_;rintro e w' ⟨a,n,er,hh,Lx,rfl,hd,hn⟩;obtain⟨rfl,_,rfl⟩:=hd.all h.nd hx;rw[if_pos rfl] at hn;rw[hn];exact⟨rfl,a⟩
theorem Rb (h:Dct w0 w d v s G room σ root L M tn) (hx:x∈Gd M):Calls Tryz.prog 38 #[.pointer (some ⟨d,0,none⟩),.string (BS x)] w fun e w'=>e=.returned (.tuple #[.agg (AM (tree 256 (D2 L M x)).dig),.int .i64 0])∧Adds w w':=by
 refine(Tb h (Gk h hx)).mono ?_;rintro e w' ⟨hh,er,H,rfl,a,hd,hl,hg,_⟩;obtain⟨rfl,rfl⟩:=hd.Es h.nd hx;rw[hg rfl _ (Lt h.nd hx)];exact⟨rfl,a⟩
theorem TW (h:Dct w0 w d v s G room σ root L M tn) (hx:x∈Gd M) {kv:Value} (hk:Bytes w kv key) (h32:key.length=32):Calls Tryz.prog 37 #[.pointer (some ⟨d,0,none⟩),.string (BS x),kv] w fun e w'=>Adds w w'∧((key∉keysOf (D2 L M x)∧e=.returned (.tuple #[.slice none 0 0,.bool false,.int .i64 0]))∨(∃bs v,(key,bs)∈D2 L M x∧e=.returned (.tuple #[v,.bool true,.int .i64 0])∧Bytes w' v bs∧∀k,v.ownBlock=some k→w.heap.size≤k∧k<w'.heap.size)):=by
 refine(UG h (Gk h hx) hk).mono ?_;rintro e w' ⟨a,v',is,er,rfl,hc⟩;rcases hc with⟨h1,_⟩|⟨_,hh,he,Lx,hd,hc⟩
 · exact absurd h32 h1
 obtain⟨rfl,_,rfl⟩:=hd.all h.nd hx;rcases hc with⟨h1,_⟩|⟨_,rfl,hc⟩
 · exact absurd rfl h1
 rcases hc with⟨rfl,h2,rfl⟩|⟨rfl,bs,h2,h3,h4⟩
 · exact⟨a,.inl ⟨h2,rfl⟩⟩
 exact⟨a,.inr ⟨bs,v',h2,rfl,h3,h4⟩⟩
end
section
variable {w0 w w' : World} {d v s room tn : Nat} {G : Nat→Prop} {σ : AD Nd} {root : Int} {L : AQ} {M : Nmd} {x key : List UInt8}
theorem R9 (h:Dct w0 w d v s G room σ root L M tn) (hx:x∈Gd M) {kv:Value} (hk:Bytes w kv key) (h32:key.length=32) :
 Calls Tryz.prog 55 #[.pointer (some ⟨d,0,none⟩),.string (BS x),kv] w (MI w (tree 256 (D2 L M x)) key):=by
 have hst:=fun w1 (a:Adds w w1)=>QH (h.adds a)
 have hof:=fun w1 (a:Adds w w1)=>Ko (hk.An a (fun _ _ h=>h)) h32
 have hhd:=fun w1 (a:Adds w w1)=>Fl (h.adds a) (Gk h hx)
 have hwy:∀w1,Adds w w1→Calls Tryz.prog 139 #[.pointer (some ⟨s,0,none⟩),.int .i64 (Es root M x),.agg (AM key)] w1 (MI w1 (tree 256 (D2 L M x)) key):=fun w1 a=>by
  obtain⟨F,hF⟩:=(h.adds a).at;exact Vh hF (h.name hx) h32
 obtain⟨K,hK⟩:∃K,K=AM key:=⟨_,rfl⟩
 have hKs:K.size=32:=by rw[hK,AN,h32]
 have hK1:∀v∈K.toList,v.oneCell'=true:=by rw[hK];exact Ah _
 rw[←hK] at hof hwy;obtain⟨S,hS⟩:∃S,S=BS x:=⟨_,rfl⟩
 rw[←hS] at hhd ⊢;obtain⟨Z,hZ⟩:∃Z,Z=AM (List.replicate 32 0):=⟨_,rfl⟩
 have hzd:=GJ;have hZs:Z.size=32:=by rw[hZ];rfl
 rw[←hZ] at hzd;obtain⟨Y,hY⟩:∃Y,Y=GW:=⟨_,rfl⟩
 have hyf:=C7;have hYs:Y.size=130:=by rw[hY];exact Ae rfl
 rw[←hY] at hyf;obtain⟨ao,cap,e0,_,_⟩:=hk.form;obtain⟨kl,hkl⟩:∃kl,kl=key.length:=⟨_,rfl⟩
 rw[←hkl] at e0;subst e0;have hents:∀e∈((tree 256 (D2 L M x)).stop key 0).ents,e.1.length=32:=fun e he=>(((h.name hx).rep.ents (h.name hx).good.fit).1 e (DA key _ 0 e he)).1
 obtain⟨hNs,hN1⟩:=DT (EV key (tree 256 (D2 L M x)) 0) hents;have hnd:=h.nd;obtain⟨T,hT⟩:∃T,T=tree 256 (D2 L M x):=⟨_,rfl⟩
 rw[←hT] at hwy hNs hN1 ⊢;obtain⟨rt,hrt⟩:∃rt,rt=Es root M x:=⟨_,rfl⟩
 rw[←hrt] at hwy;have HRT:=Lib.hid hrt;have HW:=(hIq hst (aIq hof (aIq hhd hwy)))
 have HK:=(hIq hKs hK1)
 have HZ:=(hIq hzd hZs)
 have HY:=(hIq hyf hYs)
 have HX:=(hIq hx hnd)
 have HNN:=(hIq hNs hN1)
 clear hst hof hhd hwy hK hKs hK1 hS hzd hZs hZ hyf hYs hY hkl h32 hk h hx hnd hents hNs hN1 hT hrt;go_enter Tryz.func55,Tryz.ntmps55;go_upto_region 1 with(first|fail|((with_reducible show zOq (.alloc 117));refine AI rfl 117 rfl (.agg Y) HY.out.1.1 ?_;dsimp only[Value.cells];try simp only[World.size_alloc]))
 refine BQ (fun w1 hw1=>?_);have a1:Adds w w1:=by rw[hw1];exact(Ch.refl _ _).alloc _
 have r1:w1.heap[w.heap.size]?=some (.cells Y 117 (0,0)):=by rw[hw1];exact heap_alloc_new _ _
 have H1:=(hIq a1 r1)
 clear a1 r1 hw1;go_wp2_with fail;refine(HW.out.1 _ H1.out.1).mono ?_;rintro e w2 ⟨rfl,rfl⟩;go_wp2_with fail;refine(HW.out.2.1 _ H1.out.1).mono ?_;rintro e w2 ⟨rfl,a2⟩;have H2:=(hIq (H1.out.1.trans a2 (fun _=>fEq)) (a2.row H1.out.2 id))
 clear a2
 go_upto_region 4 with(first
  | fail
  | ((with_reducible show zOq (.alloc 24));refine AI rfl 24 rfl (.agg Z) HZ.out.1 ?_;dsimp only[Value.cells];try simp only[World.size_alloc])
  | ((with_reducible show zOq (.store 24 _ _));refine AE rfl 24 _ _ rfl w2.heap.size 0 K rfl rfl (heap_alloc_new _ _) (by rw[AW,HK.out.1]) (by rw[HK.out.1,HZ.out.2];omega) HK.out.2 K (by rw[AK _ _ (by rw[Array.length_toList,Array.length_toList,HK.out.1,HZ.out.2])]) ?_))
 refine BQ (fun w3 hw3=>?_);have a3:Adds w2 w3:=by rw[hw3];exact((Ch.refl _ _).alloc _).setRow (.inr (Nat.le_refl _)) _
 have r3:w3.heap[w2.heap.size]?=some (.cells K 24 (0,0)):=by rw[hw3];exact AG (heap_alloc_new w2 (.cells Z 24)) K
 have H3:=(hIq (H2.out.1.trans a3 (fun _=>fEq)) (aIq (a3.row H2.out.2 id) r3))
 clear a3 r3 hw3;go_wp2_with fail;refine(HW.out.2.2.1 _ H3.out.1).mono ?_;rintro e w4 ⟨hh,er,rfl,rfl,hd⟩;obtain⟨rfl,hhe⟩:=hd.Es HX.out.2 HX.out.1;rw[←HRT.out] at hhe;clear hd;subst hhe;go_upto_region 9 with fail;refine AO (fun w0=>w0.heap[w2.heap.size]?=some (.cells K 24 (0,0))) 7 [(0,false),(2,false),(3,false),(1,true),(4,true),(5,false),(6,false)] (by kernel_rfl) (by kernel_rfl) ?_ ?_
 · exact AP H3.out.2.2
 iterate 2
  iterate 1 refine plan_look rfl rfl (fun w0 hS=>(by go_simp;try rfl)) ?_
  simp only[Act.put,nAq,nBq,nCq]
 refine Ac (cur:=K) (t:=24) (fr:=(0,0)) rfl rfl 24 _ rfl w2.heap.size 0 32 rfl (fun w0 hS=>hS) Tryz.underlying24 rfl AW (by rw[HK.out.1];exact Nat.le_refl _) K (by have:=HK.out.1;simp[←this]) ?_;simp only[Act.put,nAq,nBq,nCq];refine Aa rfl ?_;go_wp2_with fail;refine(HW.out.1 _ H3.out.1.drew).mono ?_;rintro e w5 ⟨rfl,rfl⟩;dsimp only;go_step;refine wpList_nil ?_;change _∧_;refine⟨AP H3.out.2.2,?_⟩;refine Aa rfl ?_;go_wp2_with fail;refine(HW.out.2.2.2 _ H3.out.1.drew).mono ?_;rintro e w5 ⟨v5,rfl,hrow,a5⟩;have a5':=(Ch.refl (fun _=>False) w3).drew.trans a5 (fun _=>fEq);obtain⟨N,hN⟩:∃N,N=EC (T.stop key 0):=⟨_,rfl⟩
 rw[←hN] at HNN ⊢;have hv1:v5.oneCell'=true:=by obtain⟨_,_,e⟩:=Cf.form hrow;rw[e];rfl
 have H5:=(hIq (H3.out.1.trans a5' (fun _=>fEq)) (aIq (a5'.row H3.out.2.1 id) (aIq (a5'.row H3.out.2.2 id) (aIq (World.ownsRow.base hrow (fun j hj=>Nat.le_trans H3.out.1.size (hrow.lt j hj).1)) (aIq hN (aIq hv1 (show ∀j,v5.ownBlock=some j→j≠w.heap.size from fun j hj e=>by have h5:=(hrow.lt j hj).1;have h6:=Ao H3.out.2.1;have h7:w3.drew.heap.size=w3.heap.size:=rfl;omega)))))))
 clear a5 a5' hrow hN hv1;dsimp only;go_step;refine wpList_nil ?_;change _∧_;refine⟨H5.out.2.2.1,?_⟩
 iterate 2
  iterate 1 refine plan_look rfl rfl (fun w0 hS=>(by go_simp;try rfl)) ?_
  simp only[Act.put,nAq,nBq,nCq]
 refine Ad ?_;simp only[List.drop_succ_cons,List.drop_zero]
 go_wp2_with (first
  | fail
  | ((with_reducible show zOq (.store 117 _ _));refine AE rfl 117 _ _ rfl w.heap.size 0 (Aj v5 N) rfl rfl H5.out.2.1 (by rw[HY.out.1.2.1,Ae HNN.out.1]) (by rw[Ae HNN.out.1,HY.out.2];omega) (Du H5.out.2.2.2.2.2.1 HNN.out.2) (Aj v5 N) (by rw[AK _ _ (by rw[Array.length_toList,Array.length_toList,Ae HNN.out.1,HY.out.2])]) ?_))
 refine NoPanic.normal ?_;go_wp2
 exact Ak (p:=6) (u:=7) rfl rfl (AG H5.out.2.1 _) Tryz.underlying117 rfl (by rw[HY.out.1.2.1,Ae HNN.out.1]) rfl
  ⟨v5,by rw[←H5.out.2.2.2.2.1];rfl,((Ch.refl (fun j=>j=w.heap.size) w5).setRow (.inl rfl) _).owns H5.out.2.2.2.1 (fun j hj e=>H5.out.2.2.2.2.2.2 j hj e),H5.out.1.setRow (.inr (Nat.le_refl _)) _⟩
end
structure We (T:Tr) (key:List UInt8) (L:AQ):Prop where
 len:(T.sides key 0).length≤256
 each:∀s∈T.sides key 0,s.length=32
 node:(T.stop key 0).isNode=false
 ents:∀e∈(T.stop key 0).ents,e.1.length=32
 up:upD key (T.sides key 0) 0 (T.stop key 0).dig=T.dig
 near:∀a b,T.stop key 0=.leaf a b→(T.sides key 0).length≤common a key
 there:∀b,T.stop key 0=.leaf key b↔(key,b)∈L
 few:D8 (T.sides key 0)≤L.length-1
 vals:∀b,(key,b)∈L→b.length≤1024
theorem Db.way {σ:AD Nd} {root:Int} {L:AQ} (D:Db σ root L) {key:List UInt8} (hk:key.length=32):We (tree 256 L) key L:=by
 obtain⟨l,e1,ho⟩:=On.ex (k:=key) D.rep;obtain⟨h1,_,_⟩:=ho.sides D.good.fit D.rep;have h2:=ho.len D.good.fit (Nat.zero_le _);have h3:=(D.rep.ents D.good.fit).1;exact⟨by omega,Eb key _ 0,EV key _ 0,fun e he=>(h3 e (DA key _ 0 e he)).1,KX key _ 0,fun a b h=>NL D hk h,fun b=>PU D hk b,Qk D,fun b hb=>(h3 _ (D.ents.mem_iff.2 hb)).2⟩
theorem U8 {w:World} {v:Value} (h:Fq w v) (S:ByteArray) (K:Value):Calls Tryz.prog 55 #[v,.string S,K] w fun e w'=>e=.returned (.tuple #[.agg GW,.int .i64 1])∧Adds w w':=by
 have hst:=fun w1 (a:Adds w w1)=>Sx (Fq.adds h a)
 obtain⟨Y,hY⟩:∃Y,Y=GW:=⟨_,rfl⟩
 have hyf:=C7;have hYs:Y.size=130:=by rw[hY];exact Ae rfl
 have hY1:∀v∈Y.toList,v.oneCell'=true:=by rw[hY];exact Du rfl Gz
 rw[←hY] at hyf ⊢;have HW:=Lib.hid hst;have HY:=(hIq hyf (aIq hYs hY1))
 clear hst hyf hYs hY1 hY h;go_enter Tryz.func55,Tryz.ntmps55;go_upto_region 1 with(first|fail|((with_reducible show zOq (.alloc 117));refine AI rfl 117 rfl (.agg Y) HY.out.1.1 ?_;dsimp only[Value.cells];try simp only[World.size_alloc]))
 refine BQ (fun w1 hw1=>?_);have a1:Adds w w1:=by rw[hw1];exact(Ch.refl _ _).alloc _
 have r1:w1.heap[w.heap.size]?=some (.cells Y 117 (0,0)):=by rw[hw1];exact heap_alloc_new _ _
 have H1:=(hIq a1 r1)
 clear a1 r1 hw1;go_wp2_with fail;refine(HW.out _ H1.out.1).mono ?_;rintro e w2 ⟨rfl,rfl⟩
 go_wp2_with (first
  | fail
  | ((with_reducible show zOq (.build 117 #[]));refine Bw rfl 117 rfl Y HY.out.1.2.2 ?_)
  | ((with_reducible show zOq (.store 117 _ _));refine AE rfl 117 _ _ rfl w.heap.size 0 Y rfl rfl H1.out.2 (by rw[HY.out.1.2.1,HY.out.2.1]) (by rw[HY.out.2.1];omega) HY.out.2.2 Y (by rw[AK _ _ rfl]) ?_))
 exact Ak (p:=6) (u:=7) rfl rfl (AG H1.out.2 _) Tryz.underlying117 rfl (by rw[HY.out.1.2.1,HY.out.2.1]) rfl ⟨rfl,H1.out.1.setRow (.inr (Nat.le_refl _)) _⟩
theorem Ql:(Tryz.prog.info? 80).map (·.size)=some 6:=by kernel_rfl
def Va (w:World) (key:List UInt8) (e:Ending) (w':World):Prop:=∃g cap,e=.returned (.slice (some ⟨g,0,none⟩) 32 cap)∧Bytes w' (.slice (some ⟨g,0,none⟩) 32 cap) key∧w.heap.size≤g∧g<w'.heap.size∧Adds w w'
theorem QI (w:World) {key:List UInt8} (hk:key.length=32):Calls Tryz.prog 36 #[.agg (AM key)] w (Va w key):=by
 obtain⟨K,hK⟩:∃K,K=AM key:=⟨_,rfl⟩
 have hks:K.size=32:=by rw[hK,AN,hk]
 have hk1:∀v∈K.toList,v.oneCell'=true:=by rw[hK];exact Ah _
 have HK:=(hIq hks (aIq hk1 hK))
 obtain⟨i0,hi,hz0,hz1,hz2⟩:=R3;have HI:=(hIq hi (aIq hz0 (aIq hz1 hz2)))
 rw[←hK];clear hks hk1 hK hi hz0 hz1 hz2;go_enter Tryz.func36,Tryz.ntmps36;go_upto_region 1 with fail;refine BQ (fun w1 hw1=>?_);have a1:Adds w w1:=by rw[hw1];exact(Ch.refl _ _).alloc _
 have r1:w1.heap[w.heap.size]?=some (.cells K 24 (0,0)):=by rw[hw1];exact heap_alloc_new _ _
 have A1:=(hIq a1 r1)
 clear a1 hw1;clear r1
 go_wp2_with (first
  | fail
  | (at_builtin;refine Ap rfl _ _ 73 rfl 5 i0 (.int .u8 0) 1 1 Tryz.underlying73 HI.out.1 HI.out.2.1 HI.out.2.2.1 HI.out.2.2.2 rfl (by decide) (.slice (some ⟨w1.heap.size,0,none⟩) 0 0) 0 [] rfl (⟨rfl,.inr ⟨w1.heap.size,0, #[],rfl,Nat.zero_le _,heap_alloc_new _ _,Nat.le_refl _,Nat.zero_le _,rfl,rfl⟩⟩) ⟨w.heap.size,0,none⟩ 32 32 K.toList rfl (by rw[Array.length_toList,HK.out.1]) (Cp (AJ A1.out.2 _)) HK.out.2.1 (by unfold maxLen;omega) (by omega) ?_;intro v' w4 own' grow' loc'))
 rw[Nat.zero_add,List.nil_append] at own';obtain⟨gg,cp,cur,rfl,hg,q1,q2,q3,q4⟩:=Cr own' (by decide);have hA4:Adds w w4:=(A1.out.1.alloc _).grown grow' (fun j hj=>by cases hj;exact .inr A1.out.1.size)
 have hge:w.heap.size≤gg:=by
  have h1:=A1.out.1.size;rcases loc' with e|e
  · injection e with e
    have e:gg=w1.heap.size:=e;omega
  have:=e gg rfl;simp at this;omega
 have H4:=(hIq hg (aIq q1 (aIq q2 (aIq q4 (aIq hA4 hge)))))
 clear hg q1 q2 q3 q4 hA4 hge own' grow' loc';go_wp2;go_ret;refine⟨gg,cp,rfl,⟨_,cp,by rw[hk],by rw[hk];exact H4.out.2.1,H4.out.2.2.1,fun j y hy=>⟨gg,0,rfl,?_⟩⟩,H4.out.2.2.2.2.2,Ao H4.out.1,H4.out.2.2.2.2.1⟩;rw[Nat.zero_add];exact AH H4.out.1 (Dj H4.out.2.2.2.1 (by rw[HK.out.2.2,show(AM key).toList=key.map bv by simp[AM],List.getElem?_map,hy];rfl))
end Go.Proofs.YtooijgcildbnlaaGreat.Law15
