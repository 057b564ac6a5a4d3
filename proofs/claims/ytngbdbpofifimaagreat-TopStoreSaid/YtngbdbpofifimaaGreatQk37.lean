/- Laws of the layers below. -/
import Derived.Test.YtngbdbpofifimaaGreatQk36
import Derived.RangeFuncFrom
import Derived.RangeFuncNested
import Derived.RangeFuncBound
import Derived.RangeFuncCalls
import Derived.RangeFuncLeaves
import Derived.OwnWalkIn
import Derived.TacticsInMore
import Derived.LoopNIn
import Derived.LoopIn
import Derived.Stop.RegionWithIn
import Derived.OrdersIn
import Derived.RangeFuncKeeps
import Derived.Shelf.Abstract
set_option maxHeartbeats 3200000
set_option maxRecDepth 100000
set_option linter.unusedVariables false
namespace Go.Proofs.YtngbdbpofifimaaGreat.Law15
open Go.RowKit Go.Sort Go.Proofs.YtngbdbpofifimaaGreat.ShaW Go.Proofs.YtngbdbpofifimaaGreat.Path Go.Proofs.YtngbdbpofifimaaGreat.Store Go.Proofs.YtngbdbpofifimaaGreat.Law9 Go.Proofs.YtngbdbpofifimaaGreat.Law14
def Dn (M:Nmd):List (List UInt8) := []::Ep (ED M)
theorem Jt (M:Nmd):(Dn M).length=M.length+1:=by unfold Dn;rw[List.length_cons,Ii,FY]
def C9 (root:Int) (M:Nmd) (x:List UInt8):Int:=if x = [] then root else (ED M).get x
def GH (L:AM) (M:Nmd) (x:List UInt8):AM:=if x = [] then L else ((M.find? fun p=>decide (p.1=x)).map fun p=>p.2.2).getD []
def Ci (root:Int) (M:Nmd) (l:List (List UInt8)):List Int:=(l.map (C9 root M)).filter fun r => !decide (r=0)
theorem OG (root:Int) (M:Nmd) (l:List (List UInt8)) (x:List UInt8):Ci root M (l ++ [x])=Ci root M l++(if C9 root M x=0 then [] else [C9 root M x]):=by
 unfold Ci;rw[List.map_append,List.filter_append]
 congr 1
 by_cases h:C9 root M x=0
 · simp[h]
 simp[h]
theorem K6 (root:Int) (M:Nmd) (l:List (List UInt8)):(Ci root M l).length≤l.length:=by
 unfold Ci;refine Nat.le_trans (List.length_filter_le _ _) ?_;rw[List.length_map];exact Nat.le_refl _
theorem NM {root:Int} {L:AM} {M:Nmd} (hn:(C0 M).Nodup) (he : []∉C0 M) (k:Int) (hk:k≠0):(Ci root M (Dn M)).count k=(((root,L)::Fm M).map Prod.fst).count k:=by
 have h1:(C0 M).map (C9 root M)=(Fm M).map Prod.fst:=by
  unfold C0 Fm;rw[List.map_map,List.map_map];refine List.map_congr_left fun p hp=>?_
  have hp':p.1 ≠ []:=fun e=>he (by rw[←e];exact List.mem_map_of_mem hp)
  show C9 root M p.1=p.2.1
  unfold C9;rw[if_neg hp',Eg hn hp]
 have h2:((Ep (ED M)).map (C9 root M)).Perm ((Fm M).map Prod.fst):=by
  rw[←h1, ←Bp];exact(List.mergeSort_perm _ leB).map _
 unfold Ci Dn;rw[List.count_filter (by simpa using hk),List.map_cons,List.map_cons,show C9 root M []=root from if_pos rfl];exact((h2.cons root).count_eq k)
theorem Hdl.C9 {root:Int} {M:Nmd} {x:List UInt8} {hh er:Int} (h:Hdl root M x hh er) (hn:(C0 M).Nodup) (hx:x∈Dn M):er=0∧hh=C9 root M x:=by
 rcases h with⟨rfl,rfl,rfl⟩|⟨h1,h2,_⟩|⟨h1,rfl,p,hp,rfl,rfl⟩
 · exact⟨rfl,(if_pos rfl).symm⟩
 · rcases List.mem_cons.1 hx with e|e
   · exact absurd e h1
   obtain⟨p,hp,e⟩:=Ez e;exact absurd (by rw[←e];exact List.mem_map_of_mem hp) h2
 exact⟨rfl,by unfold Law15.C9;rw[if_neg h1,Eg hn hp]⟩
theorem Lk {root:Int} {L:AM} {M:Nmd} {x:List UInt8} (hn:(C0 M).Nodup) (hx:x∈Dn M):(C9 root M x,GH L M x)∈(root,L)::Fm M:=by
 by_cases h0:x = []
 · subst h0
   unfold C9 GH;rw[if_pos rfl,if_pos rfl];exact List.mem_cons_self ..
 have hx':x∈Ep (ED M):=(List.mem_cons.1 hx).resolve_left h0;obtain⟨p,hp,rfl⟩:=Ez hx'
 have hf:(M.find? fun q=>decide (q.1=p.1))=some p:=by
  clear hx hx' h0
  induction M with
  | nil=>cases hp
  | cons q M ih =>
   obtain⟨n1,n2⟩:=List.nodup_cons.1 (show(q.1::C0 M).Nodup from hn);rcases List.mem_cons.1 hp with rfl|hp
   · rw[List.find?_cons_of_pos (by simp)]
   rw[List.find?_cons_of_neg (by simp;exact fun e=>n1 (by rw[e];exact List.mem_map_of_mem hp))];exact ih n2 hp
 unfold C9 GH;rw[if_neg h0,if_neg h0,Eg hn hp,hf];exact List.mem_cons_of_mem _ (List.mem_map_of_mem (f:=fun p:List UInt8×Int×AM=>(p.2.1,p.2.2)) hp)
theorem Pm {root:Int} {L:AM} {M:Nmd} (hn:(C0 M).Nodup) {r:Int} (hr:r∈Ci root M (Dn M)):∃L',(r,L')∈(root,L)::Fm M∧r≠0:=by
 unfold Ci at hr;obtain⟨h1,h2⟩:=List.mem_filter.1 hr;obtain⟨x,hx,rfl⟩:=List.mem_map.1 h1;exact⟨_,Lk hn hx,by simpa using h2⟩
theorem Roots.chk {σ:AA Nd} {R:List (Int×AM)} (h:Roots σ R) {l:List Int} (hl:l.length≤64) (hm:∀r∈l,∃L',(r,L')∈R):Store.chk σ l=0:=by
 unfold Store.chk;rw[if_neg (by omega)];refine Gy.2 fun x hx=>?_
 obtain⟨L',hm⟩:=hm x hx;exact CV (h.db hm).hand
end Go.Proofs.YtngbdbpofifimaaGreat.Law15
namespace Go.Proofs.YtngbdbpofifimaaGreat.Store
open Go.RowKit Go.Proofs.YtngbdbpofifimaaGreat.ShaW Go.Proofs.YtngbdbpofifimaaGreat.Path
theorem Ru (w:World) (l:List Int):C8 (w.alloc (.cells (Cf l).toArray 3)) (some ⟨w.heap.size,0,none⟩) l:=fun i x hx=>by
 refine⟨_,_,rfl,?_⟩;rw[Nat.zero_add];refine AE (heap_alloc_new w _) ?_;simp[Cf,hx]
section
variable {w : World}
def XP (w:World) (ao:Option Addr) (n cap:Nat) (l:List Int):Prop:=w.ownsRow 0 3 1 (.slice ao n cap) n (Cf l)∧l.length=n
end
end Go.Proofs.YtngbdbpofifimaaGreat.Store
namespace Go.Proofs.YtngbdbpofifimaaGreat.Store
open Go.RowKit Go.Sort Go.Proofs.YtngbdbpofifimaaGreat.ShaW Go.Proofs.YtngbdbpofifimaaGreat.Path
theorem Qj:∃i,Tryz.prog.info? 9=some i∧i.zero=some (.string ByteArray.empty)∧i.size=1∧i.bytes=16:=by
 obtain⟨i,h1,h2⟩:=Option.map_eq_some_iff.1 (by kernel_rfl:(Tryz.prog.info? 9).map (fun i=>(i.zero,i.size,i.bytes))=some (some (.string ByteArray.empty),1,16));simp only[Prod.mk.injEq] at h2;exact⟨i,h1,h2.1,h2.2.1,h2.2.2⟩
theorem Hy {w:World} {ops:Array Oper} {rest:List Oper} {o:Oper} {a:Act} {Q:Exit→Act→World→Prop} (hgd:o.guard=none) (s x:Operand)
 (ho:o.op=.call { callee:=.builtin .append,args:=#[s,x],argTypes:=#[137,137] }) (v:Value) (n:Nat) (xs:List (List UInt8)) (hs:a.eval s=v) (hown:w.ownsRow 0 9 1 v n (xs.map encStr))
 (ao:Option Addr) (m c:Nat) (l:List (List UInt8)) (hx:a.eval x=.slice ao m c) (hI:L9 w ao (l.map encStr)) (hm:l.length=m) (hb:n+m≤1000000)
 (h:∀v' w',w'.ownsRow 0 9 1 v' (n+m) ((xs++l).map encStr)→w.grownBy w' v.ownBlock→(v'.ownBlock=v.ownBlock∨∀k,v'.ownBlock=some k→w.heap.size≤k)→wpList Tryz.prog ops Q rest (a.put o.dst v') w'):wpList Tryz.prog ops Q (o::rest) a w:=by
 obtain⟨i0,p1,p2,p3,p4⟩:=Qj;rcases Nat.eq_zero_or_pos m with h0|h0
 · have hnil:l = []:=List.eq_nil_of_length_eq_zero (by omega)
   subst hnil;subst h0
   obtain⟨base,cap,e,hle⟩:∃base cap,v=.slice base n cap∧n≤cap:=by
    rcases hown.2 with⟨rfl,h1⟩|⟨g,cap,cur,rfl,_,_,h3,_⟩
    · exact⟨none,0,by rw[h1],by omega⟩
    exact⟨_,cap,rfl,h3⟩
   have hsrc:Src Tryz.prog i0.size 137 (.slice ao 0 c) 0 [] w:=by
    cases ao with
    | none=>exact Src.ofNil w Tryz.underlying137 c
    | some ad=>exact Src.ofSlice w Tryz.underlying137 ad 0 c [] (by simp) (fun j u hu=>by simp at hu) (fun u hu=>by cases hu)
   refine wpList_plain hgd fun _ hK=>?_
   have hrun:=run_append_nothing (P:=Tryz.prog) w 137 137 o.type 9 i0 Tryz.underlying137 p1 base n cap hle _ hsrc;subst e;unfold Oper.wp;simp[execOp,ho,resolve,invoke,builtin,hs,hx,hrun,Result.andThen];exact hK _ _ (h _ w (by rw[List.append_nil];exact hown) ⟨rfl,rfl,rfl,Nat.le_refl _,fun _ _ _=>rfl⟩ (.inl rfl))
 obtain⟨g,off,rfl,_⟩:=hI 0 (encStr l[0]) (by rw[List.getElem?_map,List.getElem?_eq_getElem (by omega)];rfl);refine As hgd s x 137 ho 9 i0 (.string ByteArray.empty) 1 16 Tryz.underlying137 p1 p2 p3 p4 rfl (by decide) v n (xs.map encStr) hs hown ⟨g,off,none⟩ m c (l.map encStr) hx (by simp[hm]) (fun j u hu=>?_) (fun u hu=>?_) (by unfold maxLen;omega) (by omega) ?_
 · obtain⟨g',off',e,hc⟩:=hI j u hu
   cases e;rw[add_plain];exact hc
 · obtain⟨y,_,rfl⟩:=List.mem_map.1 hu
   rfl
 intro v' w' q1 q2 q3;exact h v' w' (by rw[List.map_append];exact q1) q2 q3
theorem Uo (w:World) (x:List UInt8):(w.alloc (.cells #[encStr x] 9)).ownsRow 0 9 1 (.slice (some ⟨w.heap.size,0,none⟩) 1 1) 1 ([x].map encStr) :=
 ⟨by simp,.inr ⟨w.heap.size,1, #[encStr x],rfl,Nat.zero_le _,heap_alloc_new _ _,Nat.le_refl _,by unfold maxLen;decide,rfl,by simp⟩⟩
end Go.Proofs.YtngbdbpofifimaaGreat.Store
namespace Go.Proofs.YtngbdbpofifimaaGreat.Law15
open Go.RowKit Go.Sort Go.Proofs.YtngbdbpofifimaaGreat.ShaW Go.Proofs.YtngbdbpofifimaaGreat.Path Go.Proofs.YtngbdbpofifimaaGreat.Store Go.Proofs.YtngbdbpofifimaaGreat.Law9 Go.Proofs.YtngbdbpofifimaaGreat.Law14
section
variable {w0 w w' : World} {d v s room tn : Nat} {G : Nat→Prop} {σ σ' : AA Nd} {root r : Int} {L L' : AM} {M M' : Nmd}
def K7 (w:World) (ao:Option Addr) (n:Nat) (M:Nmd):Prop:=L9 w ao ((Dn M).map encStr)∧n=(Dn M).length
theorem K7.cell {ao:Option Addr} {n:Nat} (h:K7 w ao n M) {k:Nat} (hk:k<n):∃g off x,ao=some ⟨g,off,none⟩∧(Dn M)[k]?=some x∧x∈Dn M∧w.cell? ⟨g,off+k,none⟩=some (.string (BH x)):=by
 obtain⟨x,hx⟩:∃x,(Dn M)[k]?=some x:=⟨_,List.getElem?_eq_getElem (by have:=h.2;omega)⟩
 obtain⟨g,off,e,hc⟩:=h.1 k (encStr x) (by rw[List.getElem?_map,hx];rfl);exact⟨g,off,x,e,hx,List.mem_of_getElem? hx,hc⟩
def Wu (w:World) (root:Int) (M:Nmd) (e:Ending) (w':World):Prop:=∃q m qc,e=.returned (.tuple #[.slice q m qc,.bool true])∧XP w' q m qc (Ci root M (Dn M))∧Adds w w'
theorem Gt (h:Dct w0 w d v s G room σ root L M tn) {x:List UInt8} (hx:x∈Dn M):x.length≤maxLen:=by
 rcases List.mem_cons.1 hx with rfl|hx
 · exact Nat.zero_le _
 obtain⟨p,hp,rfl⟩:=Ez hx;exact h.lens (List.mem_map_of_mem hp)
end
end Go.Proofs.YtngbdbpofifimaaGreat.Law15
namespace Go.Proofs.YtngbdbpofifimaaGreat.Store
open Go.RowKit Go.Sort Go.Proofs.YtngbdbpofifimaaGreat.ShaW Go.Proofs.YtngbdbpofifimaaGreat.Path Go.Proofs.YtngbdbpofifimaaGreat.Law9
def SX (w:World) (n0:Nat) (v:Value) (bs:List UInt8):Prop :=
 (v=.slice none 0 0∧bs = [])∨∃g c all,v=.slice (some ⟨g,0,none⟩) bs.length c∧n0≤g∧w.heap[g]?=some (.cells (AK all) 5 (0,0))∧all.length=c∧all.take bs.length=bs∧c≤maxLen∧bs.length≤c
theorem Mw {w:World} {a b:Value} {xs ys:List UInt8} (ha:Bytes w a xs) (hb:Bytes w b ys) :
 Calls Tryz.prog 40 #[a,b] w fun e w'=>e=.returned (.bool (decide (xs=ys)))∧w'=w:=by
 have c1:=Co ha;have c2:=Co hb;obtain⟨ao,ca,rfl,_⟩:=ha.form;obtain⟨bo,cb,rfl,_⟩:=hb.form;obtain⟨A,hA⟩:∃A,A=BH xs:=⟨_,rfl⟩
 obtain⟨B,hB⟩:∃B,B=BH ys:=⟨_,rfl⟩
 have hq:(A.toList == B.toList)=decide (xs=ys):=by rw[hA,hB];exact J4 xs ys
 rw[←hA] at c1;rw[←hB] at c2;obtain⟨r,hr⟩:∃r,r=decide (xs=ys):=⟨_,rfl⟩
 rw[←hr] at hq ⊢;clear hA hB ha hb hr;go_enter Tryz.func40,Tryz.ntmps40;go_wp2;go_ret;exact⟨by first|rw[hq]|rfl,rfl⟩
def UZ (x:UInt8):UInt8:=x ^^^ 90
end Go.Proofs.YtngbdbpofifimaaGreat.Store
namespace Go.Proofs.YtngbdbpofifimaaGreat
open Go.RowKit
def YO {α:Type} (F:Fence) (n:Nat) (P:Program) (g:Nat) (lb:Array Value) (encs:α→Array Value) (Y:List α→α→World→Prop) (Kp:World→World→Prop) (S Sp:List α→Prop) (N:Nat) (w:World):Prop :=
 ∀(l:Nat) (J Jx:List α→World→Prop) (W:World),Below w.heap.size w W→AbidesFrom W.heap.size J→AbidesFrom W.heap.size Jx →
  (∀pre x W1,J pre W1→Y pre x W1→pre.length<N→YieldAt F (n-1) P l (encs x) W1 fun e W' =>
   (e=.returned (.bool true)∧J (pre ++ [x]) W'∧Kp W1 W')∨(e=.returned (.bool false)∧Jx (pre ++ [x]) W')) →
  J [] W→CallsIn F n P g (#[.func (.yield l) #[] #[]]++lb) W fun e W'=>(∃v,e=.returned v)∧((∃xs,S xs∧J xs W')∨(∃pre,Sp pre∧Jx pre W'))
variable {F : Fence} {n : Nat} {P : Program}
end Go.Proofs.YtngbdbpofifimaaGreat
namespace Go.Proofs.YtngbdbpofifimaaGreat.Store
open Go.RowKit Go.Sort Go.Proofs.YtngbdbpofifimaaGreat.ShaW Go.Proofs.YtngbdbpofifimaaGreat.Path Go.Proofs.YtngbdbpofifimaaGreat.Law9
def Yv (n0:Nat) (out:List Pr) (pre:List Pr) (x:Pr) (W:World):Prop :=
 ∃y,out[pre.length]?=some y∧x.ent=y.ent∧x.key.length=32∧x.val.length≤1024∧SX W n0 x.vv x.val
end Go.Proofs.YtngbdbpofifimaaGreat.Store
namespace Go.Proofs.YtngbdbpofifimaaGreat
open Go.RowKit
section
variable {F : Fence} {n : Nat} {P : Program} {ops : Array Oper} {Q : Exit→Act→World→Prop} {md : Region.Mode} {S : World→Prop}
def Ub (P:Program) (ops:Array Oper) (S:World→Prop) (o:Oper) (v:Value) (a:Act):Prop:=YieldsIf P ops S o v a∧∀w,o.about P w a.eval=none
def VE (F:Fence) (n:Nat) (P:Program) (md:Region.Mode) (ops:Array Oper) (Q:Exit→Act→World→Prop) (S:World→Prop):Nat→Array Bool→Act→World→Prop
 | 0,listed,a,w=>Region.ready md ops listed = []∧Q .normal a w
 | f+1,listed,a,w=>Region.ready md ops listed ≠ []∧∀i∈Region.ready md ops listed,wpOpIn F n P ops Q i (fun a' w'=>S w'∧VE F n P md ops Q S f (listed.setIfInBounds i true) a' w') a w
def VC (ops:Array Oper):Bool:=ops.all fun o=>match o.op with | .defer _=>false|_=>true
def O3 (F:Fence) (n:Nat) (P:Program) (l:List Oper) (Q:Exit→Act→World→Prop) (S:World→Prop):List (Nat×Bool)→Act→World→Prop
 | [],a,w=>Q .normal a w
 | (i,false)::r,a,w=>∃o v,l[i]?=some o∧Ub P l.toArray S o v a∧O3 F n P l Q S r (a.put o.dst v) w
 | (i,true)::r,a,w=>wpOpIn F n P l.toArray Q i (fun a' w'=>S w'∧O3 F n P l Q S r a' w') a w
def PS (md:Region.Mode) (ops:Array Oper):List (Nat×Bool)→Array Bool→Bool
 | [],listed=>decide (Region.ready md ops listed = [])
 | (i,false)::r,listed=>(Region.ready md ops listed).contains i&&Region.free md ops listed i&&PS md ops r (listed.setIfInBounds i true)
 | (i,true)::r,listed=>decide (Region.ready md ops listed = [i])&&PS md ops r (listed.setIfInBounds i true)
def XQ (md:Region.Mode) (ops:Array Oper) (p:List (Nat×Bool)):Bool:=Region.noSelect ops&&VC ops&&decide (p.length=ops.size)&&PS md ops p (Array.replicate ops.size false)
end
end Go.Proofs.YtngbdbpofifimaaGreat
namespace Go.Proofs.YtngbdbpofifimaaGreat.Store
open Go.RowKit Go.Sort Go.Proofs.YtngbdbpofifimaaGreat.ShaW Go.Proofs.YtngbdbpofifimaaGreat.Path Go.Proofs.YtngbdbpofifimaaGreat.Law9
section
variable {w : World} {s : Nat} {F : Nat→Prop} {σ : AA Nd} {root : Int} {t : Tr}
def X3 (base:Nat) (w:World) (e:AM) (q:Value):Prop:=∃(b:Nat) (v:Value) (out:List Pr),q=.func (.func 171) #[] #[.pointer (some ⟨b,0,none⟩)]∧base≤b∧w.heap[b]?=some (.cells #[v] 56 (0,0))∧Told base w v out∧out.map Pr.ent=e∧v.ownBlock≠some b∧∀x∈out,x.vv.ownBlock≠some b
end
end Go.Proofs.YtngbdbpofifimaaGreat.Store
namespace Go.Proofs.YtngbdbpofifimaaGreat.Store
open Go.RowKit Go.Shelf Go.Sort Go.Proofs.YtngbdbpofifimaaGreat.ShaW Go.Proofs.YtngbdbpofifimaaGreat.Path Go.Proofs.YtngbdbpofifimaaGreat.Law9
attribute [local go_sem] Oper.semAt_some
structure GoI (w:World) (wv:Value) (stop:Int) (m:Nat) (W:World):Prop where
 adds:Adds w W
 want:W.heap[w.heap.size]?=some (.cells #[wv] 56 (0,0))
 stop:W.heap[w.heap.size+1]?=some (.cells #[.int .i64 stop] 3 (0,0))
 ans:W.heap[w.heap.size+2]?=some (.cells #[.bool false] 4 (0,0))
 cnt:W.heap[w.heap.size+3]?=some (.cells #[.int .i64 (m:Nat)] 3 (0,0))
def GoX (w:World) (c:Code) (W:World):Prop:=c=.ret∧Adds w W∧W.heap[w.heap.size+2]?=some (.cells #[.bool true] 4 (0,0))
def Ud (w:World) (q wv:Value) (stop:Int) (p:Nat) (k:Array Value) (v:Value):Array Value :=
 #[q,wv,.int .i64 stop,undef,.pointer (some ⟨w.heap.size,0,none⟩),.pointer (some ⟨w.heap.size+1,0,none⟩),.pointer (some ⟨w.heap.size+1+1,0,none⟩),.pointer (some ⟨w.heap.size+1+1+1,0,none⟩),.pointer (some ⟨p,0,none⟩),v,q,.bool false,q,.agg k,v,
  undef,undef,undef,undef,undef,undef,undef,undef,undef,undef,undef,undef,undef,undef,undef,undef,undef,undef,undef,undef,undef,undef,undef,undef,undef,undef,undef,undef,undef,undef,undef,undef,undef,undef]
structure GoB (w:World) (q wv:Value) (stop:Int) (out:List Pr) (pre:List Pr) (x:Pr) (a:Act) (p:Nat) (W:World):Prop where
 act:a = { tmps:=Ud w q wv stop p (AK x.key) x.vv,defers := [] }
 inv:GoI w wv stop pre.length W
 yv:Yv w.heap.size out pre x W
 box:W.heap[p]?=some (.cells (AK x.key) 47 (0,0))
 far:w.heap.size+4≤p
end Go.Proofs.YtngbdbpofifimaaGreat.Store
namespace Go.Proofs.YtngbdbpofifimaaGreat.Law15
open Go.RowKit Go.Sort Go.Proofs.YtngbdbpofifimaaGreat.ShaW Go.Proofs.YtngbdbpofifimaaGreat.Path Go.Proofs.YtngbdbpofifimaaGreat.Store Go.Proofs.YtngbdbpofifimaaGreat.Law9 Go.Proofs.YtngbdbpofifimaaGreat.Law14
section
variable {w0 w w' : World} {d v s room tn : Nat} {G : Nat→Prop} {σ σ' : AA Nd} {root r : Int} {L L' : AM} {M M' : Nmd} {x key : List UInt8}
theorem Db.leaves {σ:AA Nd} {root:Int} {L:AM} (D:Db σ root L):(tree 256 L).leaves=L.length:=by rw[←Tr.Ey,D.ents.length_eq]
def VO (w:World) (root:Int) (L:AM) (M:Nmd) (x:List UInt8) (e:Ending) (w':World):Prop :=
 Adds w w'∧∃n er hh Lx,e=.returned (.tuple #[.int .i64 n,.int .i64 er])∧Oa root L M x hh er Lx∧n=if er=0 then (Lx.length:Int) else 0
theorem U6 (h:Dct w0 w d v s G room σ root L M tn) (hx:x.length≤maxLen):Calls Tryz.prog 48 #[.pointer (some ⟨d,0,none⟩),.string (BH x)] w (VO w root L M x):=by
 have hhd:=Fp h hx;obtain⟨S,hS⟩:∃S,S=BH x:=⟨_,rfl⟩
 rw[←hS] at hhd ⊢;have HN:=Lib.hid hhd;have HH:=Lib.hid h;have c1:w.cell? ⟨d,1,none⟩=some (.pointer (some ⟨s,0,none⟩)):=AE h.cell rfl;clear hhd hS h;go_enter Tryz.func48,Tryz.ntmps48;go_wp2_with fail;refine HN.out.mono ?_;rintro e w3 ⟨hh,he,rfl,rfl,hd⟩;obtain⟨Lx,hdl⟩:=hd.pick L;have HD:=Lib.hid hdl;clear hd hdl;by_cases h0:he=0
 · have H0:=Lib.hid h0
   have hfd:Calls Tryz.prog 72 #[.pointer (some ⟨s,0,none⟩),.int .i64 hh] w fun e w'=>e=.returned (.tuple #[.int .i64 ((Lx.length:Nat):Int),.int .i64 0])∧Adds w w':=by
    obtain⟨F,hF⟩:=HH.out.at;have D:=HH.out.rts.db (HD.out.mem h0);rw[←Db.leaves D];exact Rc hF HH.out.rts.good D.rep (CV D.hand)
   have HF:=Lib.hid hfd;obtain⟨n,hn⟩:∃n,n=Lx.length:=⟨_,rfl⟩
   rw[←hn] at HF;have HNN:=Lib.hid hn;subst h0;clear hfd hn;go_wp2_with fail;refine HF.out.mono ?_;rintro e w4 ⟨rfl,a4⟩;have A4:=Lib.hid a4;clear a4;go_wp2;go_ret2;exact⟨A4.out,_,0,hh,Lx,rfl,HD.out,by rw[if_pos rfl,HNN.out]⟩
 have H0:=Lib.hid h0;go_wp2;go_ret2;exact⟨Ch.refl _ _,0,he,hh,Lx,rfl,HD.out,by rw[if_neg H0.out]⟩
def Wv (w:World) (root:Int) (L:AM) (M:Nmd) (x key:List UInt8) (most:Int) (e:Ending) (w':World):Prop :=
 Adds w w'∧∃v er,e=.returned (.tuple #[v,.int .i64 er])∧((key.length≠32∧er=3∧v=.slice none 0 0)∨(key.length=32∧∃hh he Lx,Oa root L M x hh he Lx∧((he≠0∧er=he∧v=.slice none 0 0) ∨
  (he=0∧(most<0∨256<most)∧er=2∧v=.slice none 0 0)∨(he=0∧0≤most∧most≤256∧er=0∧∃out,Store.Told w.heap.size w' v out∧out.map Pr.ent=((tree 256 Lx).from key).take most.toNat))))
end
section
variable {w0 w w' : World} {d v s room tn : Nat} {G : Nat→Prop} {σ : AA Nd} {root : Int} {L : AM} {M : Nmd} {x key : List UInt8}
theorem Oa.all {hh he:Int} {Lx:AM} (h:Oa root L M x hh he Lx) (hn:(C0 M).Nodup) (hx:x∈Dn M):he=0∧hh=C9 root M x∧Lx=GH L M x:=by
 rcases h with⟨rfl,rfl,rfl,rfl⟩|⟨h1,h2,_⟩|⟨h1,rfl,p,hp,rfl,rfl,rfl⟩
 · exact⟨rfl,(if_pos rfl).symm,(if_pos rfl).symm⟩
 · rcases List.mem_cons.1 hx with e|e
   · exact absurd e h1
   obtain⟨p,hp,e⟩:=Ez e;exact absurd (by rw[←e];exact List.mem_map_of_mem hp) h2
 refine⟨rfl,by unfold C9;rw[if_neg h1,Eg hn hp],?_⟩
 have hf:(M.find? fun q=>decide (q.1=p.1))=some p:=by
  clear hx h1
  induction M with
  | nil=>cases hp
  | cons q M ih =>
   obtain⟨n1,n2⟩:=List.nodup_cons.1 (show(q.1::C0 M).Nodup from hn);rcases List.mem_cons.1 hp with rfl|hp
   · rw[List.find?_cons_of_pos (by simp)]
   rw[List.find?_cons_of_neg (by simp;exact fun e=>n1 (by rw[e];exact List.mem_map_of_mem hp))];exact ih n2 hp
 unfold GH;rw[if_neg h1,hf];rfl
def Xj (w:World) (L:AM) (e:Ending) (w':World):Prop:=Adds w w'∧∃ao out cap,e=.returned (.tuple #[.slice ao (List.length out) cap,.int .i64 0])∧GA w' ao out∧out.length=min L.length 256∧XC out∧(L.length≤256→tree 256 (out.map Pr.ent)=tree 256 L)∧out.map Pr.ent=((tree 256 L).from (List.replicate 32 0)).take 256
theorem Sj (h:Dct w0 w d v s G room σ root L M tn) (hx:x∈Dn M):Calls Tryz.prog 48 #[.pointer (some ⟨d,0,none⟩),.string (BH x)] w fun e w'=>e=.returned (.tuple #[.int .i64 (((GH L M x).length:Nat):Int),.int .i64 0])∧Adds w w':=by
 refine(U6 h (Gt h hx)).mono ?_;rintro e w' ⟨a,n,er,hh,Lx,rfl,hd,hn⟩;obtain⟨rfl,_,rfl⟩:=hd.all h.nd hx;rw[if_pos rfl] at hn;rw[hn];exact⟨rfl,a⟩
theorem I9 (h:Dct w0 w d v s G room σ root L M tn) (hx:x∈Dn M):Calls Tryz.prog 11 #[.pointer (some ⟨d,0,none⟩),.string (BH x)] w fun e w'=>e=.returned (.tuple #[.agg (AK (tree 256 (GH L M x)).dig),.int .i64 0])∧Adds w w':=by
 refine(Sw h (Gt h hx)).mono ?_;rintro e w' ⟨hh,er,H,rfl,a,hd,hl,hg,_⟩;obtain⟨rfl,rfl⟩:=hd.C9 h.nd hx;rw[hg rfl _ (Lk h.nd hx)];exact⟨rfl,a⟩
theorem Ty (h:Dct w0 w d v s G room σ root L M tn) (hx:x∈Dn M) {kv:Value} (hk:Bytes w kv key) (h32:key.length=32):Calls Tryz.prog 47 #[.pointer (some ⟨d,0,none⟩),.string (BH x),kv] w fun e w'=>Adds w w'∧((key∉keysOf (GH L M x)∧e=.returned (.tuple #[.slice none 0 0,.bool false,.int .i64 0]))∨(∃bs v,(key,bs)∈GH L M x∧e=.returned (.tuple #[v,.bool true,.int .i64 0])∧Bytes w' v bs∧∀k,v.ownBlock=some k→w.heap.size≤k∧k<w'.heap.size)):=by
 refine(VU h (Gt h hx) hk).mono ?_;rintro e w' ⟨a,v',is,er,rfl,hc⟩;rcases hc with⟨h1,_⟩|⟨_,hh,he,Lx,hd,hc⟩
 · exact absurd h32 h1
 obtain⟨rfl,_,rfl⟩:=hd.all h.nd hx;rcases hc with⟨h1,_⟩|⟨_,rfl,hc⟩
 · exact absurd rfl h1
 rcases hc with⟨rfl,h2,rfl⟩|⟨rfl,bs,h2,h3,h4⟩
 · exact⟨a,.inl ⟨h2,rfl⟩⟩
 exact⟨a,.inr ⟨bs,v',h2,rfl,h3,h4⟩⟩
end
end Go.Proofs.YtngbdbpofifimaaGreat.Law15
namespace Go.Proofs.YtngbdbpofifimaaGreat.Store
open Go.RowKit Go.Proofs.YtngbdbpofifimaaGreat.ShaW Go.Proofs.YtngbdbpofifimaaGreat.Path Go.Proofs.YtngbdbpofifimaaGreat.Law9
theorem T8 (x:Int) (n:Nat) (hn:0<n) (hn2:n≤1000000) (w:World):Calls Tryz.prog 7 #[.int .i64 x,.int .i64 n] w fun e w'=>e=.returned (.int .i64 (pick x n))∧w=w':=by
 have h1:=Int.lt_tmod_of_pos x (show(0:Int)<n by omega);have h2:=Int.tmod_lt_of_pos x (show(0:Int)<n by omega);have hw0:IntKind.i64.wrap (Int.tmod x n)=Int.tmod x n:=IntWalk.i64_in _ (by omega);have hw:IntKind.i64.wrap (Int.tmod x n+n)=Int.tmod x n+n:=IntWalk.i64_in _ (by omega);have hz:((n:Int) == 0)=false:=by simpa using (show ¬(n:Int)=0 by omega)
 unfold pick;by_cases h0:Int.tmod x n<0
 · rw[if_pos h0]
   go_enter Tryz.func7,Tryz.ntmps7;go_wp2;go_ret;exact⟨rfl,rfl⟩
 rw[if_neg h0];have hx0:decide (Int.tmod x n<0)=false:=decide_eq_false h0;go_enter Tryz.func7,Tryz.ntmps7;go_wp2;go_ret;exact⟨rfl,rfl⟩
end Go.Proofs.YtngbdbpofifimaaGreat.Store
namespace Go.Proofs.YtngbdbpofifimaaGreat.Law15
open Go.RowKit Go.Sort Go.Proofs.YtngbdbpofifimaaGreat.ShaW Go.Proofs.YtngbdbpofifimaaGreat.Path Go.Proofs.YtngbdbpofifimaaGreat.Store Go.Proofs.YtngbdbpofifimaaGreat.Law9 Go.Proofs.YtngbdbpofifimaaGreat.Law14
theorem Uq {w:World} {a:Cb} (h:a.Good w):a.cells.size=6∧∀v∈a.cells.toList,v.oneCell'=true:=by
 refine⟨rfl,fun v hv=>?_⟩;obtain⟨ao,c,e,_⟩:=h.key.form;obtain⟨bo,c2,e2,_⟩:=h.val.form;simp[Cb.cells] at hv;rcases hv with rfl|rfl|rfl|rfl|rfl|rfl
 · rfl
 · rfl
 · rw[e];rfl
 · rw[e2];rfl
 · rfl
 rfl
theorem JO:(Tryz.prog.info? 32).map (·.size)=some 6:=by kernel_rfl
section
variable {w0 w w' : World} {d v s room tn : Nat} {G G' : Nat→Prop} {σ σ' : AA Nd} {root r : Int} {L L' : AM} {M M' : Nmd}
theorem Dct.BZ (h:Dct w0 w d v s G room σ root L M tn) (hG:∀k,G' k→G k):Dct w0 w d v s G' room σ root L M tn :=
 ⟨h.cell,h.vs.less (fun k hk=>hk.imp id (hG k)),h.rts,h.room,h.total,h.base.1,fun hk=>h.base.2 (hG _ hk)⟩
theorem Dct.MJ (h:Dct w0 w d v s G room σ root L M tn):Store.live σ≤room:=by
 have h1:=NQ σ;have h2:=h.rts.good.sound.wf.len;have h3:=h.room;omega
theorem Tm (h:∀p∈M,CG p.1=true) : []∉C0 M:=fun hm=>by
 obtain⟨p,hp,e⟩:=GV hm;have:=h p hp;rw[e] at this
 revert this
 decide
theorem Dct.Va (h:Dct w0 w d v s G room σ root L M tn) (hf:∀p∈M,CG p.1=true):LX σ (Ci root M (Dn M)) :=
 h.rts.Va (fun k hk=>NM h.nd (Tm hf) k hk)
theorem Dct.chk (h:Dct w0 w d v s G room σ root L M tn) (hl:M.length≤16):Store.chk σ (Ci root M (Dn M))=0 :=
 Roots.chk h.rts (by have h1:=K6 root M (Dn M);rw[Jt] at h1;omega) (fun r hr=>by
  obtain⟨L',h1,_⟩:=Pm (L:=L) h.nd hr;exact⟨L',h1⟩)
structure Xw (W w:World) (d v s room:Nat) (σ:AA Nd) (root:Int) (L:AM) (M:Nmd) (tn:Nat):Prop where
 dct:Dct W w d v s (fun _=>False) room σ root L M tn
 few:M.length≤16
 fit:∀p∈M,CG p.1=true
def Sc:Array Value:=#[.int .u8 0,.string ByteArray.empty,.slice none 0 0,.slice none 0 0,.slice none 0 0,.int .i64 0]
theorem P0:(Tryz.prog.info? 32).bind (·.zero)=some (.agg Sc):=by kernel_rfl
end
def unl (ks:List (List UInt8)):Nat→Nat
 | 0=>0
 | k+1=>unl ks k+(match ks[k]? with|some x=>if x∈ks.take k then 0 else 1|none=>0)
theorem Ge {ks:List (List UInt8)} {k:Nat} {x:List UInt8} (h:ks[k]?=some x):unl ks (k+1)=unl ks k+if x∈ks.take k then 0 else 1:=by
 show unl ks k+(match ks[k]? with|some x=>if x∈ks.take k then 0 else 1|none=>0)=_
 rw[h]
theorem QW (ks r:List (List UInt8)):∀k,k≤ks.length→unl (ks++r) k=unl ks k:=by
 intro k
 induction k with
 | zero=>intro _;rfl
 | succ k ih =>
  intro hk;have hx:ks[k]?=some ks[k]:=List.getElem?_eq_getElem (by omega);rw[Ge hx,Ge (x:=ks[k]) (by rw[List.getElem?_append_left (by omega)];exact hx),ih (by omega),List.take_append_of_le_length (by omega)]
theorem SG (ks:List (List UInt8)):∀k,unl ks k≤k:=by
 intro k
 induction k with
 | zero=>exact Nat.le_refl _
 | succ k ih =>
  show unl ks k+(match ks[k]? with|some x=>if x∈ks.take k then 0 else 1|none=>0)≤_
  split
  · split<;>omega
  omega
theorem B7 (x:Wm):x.bare.key=x.key:=by unfold Wm.bare;split<;>rfl
theorem Kc {l out:List Wm} (h:DF l out):∀x,x∈out.map (·.key)↔x∈l.map (·.key):=by
 induction h with
 | nil=>intro x;exact Iff.rfl
 | @new l out y h hp ih =>
  intro x;rw[List.map_append,List.map_append,List.mem_append,List.mem_append,ih x];simp only[List.map_cons,List.map_nil,List.mem_singleton,B7]
 | @old l out y q i h hq hk ih =>
  intro x;rw[List.map_append,List.mem_append, ←ih x];have hi:(out.map (·.key))[i]?=some y.key:=by rw[List.getElem?_map,hq];exact congrArg some hk
  have hs:(out.set i y.bare).map (·.key)=out.map (·.key):=by
   rw[List.map_set,B7];apply List.ext_getElem?;intro j;by_cases hj:i=j
   · subst hj
     have hlt:i<(out.map (·.key)).length:=(List.getElem?_eq_some_iff.1 hi).1;exact(List.getElem?_set_self hlt).trans hi.symm
   rw[List.getElem?_set_ne hj]
  rw[hs]
  exact⟨.inl,fun h=>h.elim id (fun h=>by
   have e:x=y.key:=by simpa using h
   rw[e];exact List.mem_of_getElem? hi)⟩
theorem Rg {l out:List Wm} (h:DF l out):out.length=unl (l.map (·.key)) l.length:=by
 induction h with
 | nil=>rfl
 | @new l out y h hp ih =>
  have hx:((l ++ [y]).map (·.key))[l.length]?=some y.key:=by rw[List.map_append,List.getElem?_append_right (by simp)];simp
  rw[List.length_append,List.length_append]
  show out.length+1=unl _ (l.length+1)
  rw[Ge hx,List.map_append,QW _ _ _ (by simp),ih,List.take_append_of_le_length (by simp),List.take_of_length_le (by simp),if_neg];intro hm;obtain⟨q,hq,e⟩:=List.mem_map.1 ((Kc h _).2 hm);exact hp q hq e
 | @old l out y q i h hq hk ih =>
  have hx:((l ++ [y]).map (·.key))[l.length]?=some y.key:=by rw[List.map_append,List.getElem?_append_right (by simp)];simp
  rw[List.length_append,List.length_set]
  show out.length=unl _ (l.length+1)
  rw[Ge hx,List.map_append,QW _ _ _ (by simp),ih,List.take_append_of_le_length (by simp),List.take_of_length_le (by simp),if_pos,Nat.add_zero];exact(Kc h _).1 (by rw[←hk];exact List.mem_map_of_mem (List.mem_of_getElem? hq))
theorem K9 {l l':List Wm} (h:Bz l l'):l'.length=unl (l.map (·.key)) l.length:=by
 obtain⟨out,h1,h2⟩:=h.ex;rw[h2.length_eq];exact Rg h1
def F1 (l:List BN):List (List UInt8):=l.map (·.kb)
theorem L4 (l:List BN):(l.map BN.wm).map (·.key)=F1 l:=by
 rw[List.map_map];rfl
section
variable {σ σ' : AA Nd} {l : List BN} {L L' : AM} {er : Int} {R : List (Int×AM)} {root : Int}
theorem Sm (D:Roots σ ((root,L)::R)) {bs:List UInt8} (h:Dj σ bs=9):σ.room<Store.live σ+258:=by
 unfold Dj at h;split at h
 · cases h
 split at h
 · cases h
 rename_i hf;rw[Ds,D.good.used] at hf;have:=of_decide_eq_false (Bool.eq_false_iff.2 hf);omega
theorem TH (D:Roots σ ((root,L)::R)) {key bs:List UInt8} (h:CI σ key bs=9):σ.room<Store.live σ+258:=by
 unfold CI at h;split at h
 · exact Sm D h
 cases h
theorem SO (D:Roots σ ((root,L)::R)) {key:List UInt8} (h:Cc σ key=9):σ.room<Store.live σ+258:=by
 unfold Cc Dz at h;split at h
 · split at h
   · cases h
   rename_i hf;rw[Ds,D.good.used] at hf;have:=of_decide_eq_false (Bool.eq_false_iff.2 hf);omega
 cases h
theorem T3 (D:Roots σ ((root,L)::R)) (h:Ws σ l L L' er) (he:er=9):σ.room<Store.live σ+258*unl (F1 l) l.length:=by
 subst he;rcases h with⟨h,_⟩|⟨_,n,h1,h2,_⟩
 · cases h
 obtain⟨l',h3,rfl⟩:=h2 (by decide);have hu:=K9 h3;rw[L4,List.length_map] at hu;rw[←hu];unfold Ca at h1;split at h1
 · cases h1
 rename_i h64;split at h1
 · cases h1
 split at h1
 · cases h1
 rename_i hf;have hl:=h3.len;have hu:=D.good.used;unfold Ck at hf;rw[List.length_map] at h64 hl;simp only[Bool.and_eq_true,decide_eq_true_eq,not_and] at hf;have:=hf (by omega) (by omega);omega
theorem Sh (h:Vh σ σ' l er):Store.live σ'≤Store.live σ+258*unl (F1 l) l.length:=by
 rcases h with⟨_,rfl⟩|⟨_,l',h3,h4⟩
 · exact Nat.le_add_right _ _
 have hu:=K9 h3;rw[L4,List.length_map] at hu;rw[←hu];exact h4
end
end Go.Proofs.YtngbdbpofifimaaGreat.Law15
namespace Go.Proofs.YtngbdbpofifimaaGreat.Tag
theorem I8:Ee = [110,52,11,156,255,179,122,152,156,165,68,230,187,120,10,44,120,144,29,63,179,55,56,118,133,17,163,6,23,175,160,29]:=by decide +kernel
end Go.Proofs.YtngbdbpofifimaaGreat.Tag
namespace Go.Proofs.YtngbdbpofifimaaGreat.Law15
open Go.RowKit Go.Sort Go.Proofs.YtngbdbpofifimaaGreat.ShaW Go.Proofs.YtngbdbpofifimaaGreat.Path Go.Proofs.YtngbdbpofifimaaGreat.Store Go.Proofs.YtngbdbpofifimaaGreat.Law9 Go.Proofs.YtngbdbpofifimaaGreat.Law14
section
variable {w0 w w' : World} {d v s room tn : Nat} {G : Nat→Prop} {σ σ' : AA Nd} {root r : Int} {L L' : AM} {M M' : Nmd} {R : List (Int×AM)}
theorem Dct.VD (h:Dct w0 w d v s G room σ root L M tn) (hf:∀p∈M,CG p.1=true) {k:Wk} (W:Wanting σ (Ci root M (Dn M)) k.todo.length k):k.todo.length=Store.live σ:=by
 have h1:=SH W;rw[(h.Va hf).lost W,Gk] at h1;simpa using h1
def CF:List UInt8:=List.replicate 32 0
def CK:List UInt8:=128::List.replicate 31 0
theorem F0:upd (upd [] CF [97]) CK [] = [(CK,[]),(CF,[97])]:=by decide +kernel
theorem Ks:tree 256 (upd (upd [] CF [97]) CK [])=.node (.leaf CF [97]) (.leaf CK []):=by
 have e0:sideE 0 (255-255) [(CK,[]),(CF,[97])] = [(CF,[97])]:=by decide +kernel
 have e1:sideE 1 (255-255) [(CK,[]),(CF,[97])] = [(CK,[])]:=by decide +kernel
 rw[F0,Bm (m:=255) (by simp),e0,e1,BJ,BJ]
theorem Ry:(tree 256 (upd (upd [] CF [97]) CK [])).dig=Tag.EL (Tag.Dd CF (Tag.BE [97])) (Tag.Dd CK (Tag.BE [])):=by
 rw[Ks];rfl
theorem Oe:(tree 256 (upd (upd [] CF [97]) CK [])).nodes=3:=by
 rw[Ks];rfl
theorem Px (D:Roots σ [(root,upd (upd [] CF [97]) CK [])]):Store.live σ=3:=by
 rw[D.live (List.mem_cons_self ..) (fun q hq=>.inr (by rw[List.mem_singleton.1 hq])),Oe]
theorem Qx {bs:List UInt8} (h:(CF,bs)∈upd (upd [] CF [97]) CK []):bs = [97]:=by
 rw[F0] at h;rcases List.mem_cons.1 h with e|e
 · have:CF=CK:=congrArg Prod.fst e
   exact absurd this (by decide +kernel)
 have:=List.mem_singleton.1 e;exact congrArg Prod.snd this
theorem Nq:CF∈keysOf (upd (upd [] CF [97]) CK []):=by
 rw[F0]
 decide +kernel
end
end Go.Proofs.YtngbdbpofifimaaGreat.Law15
