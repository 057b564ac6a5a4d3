/- Laws of the layers below. -/
import Derived.Test.YtngbdbpofifimaaGreatQl40
import Derived.RangeFuncFrom
import Derived.RangeFuncNested
import Derived.RangeFuncBound
import Derived.RangeFuncCalls
import Derived.RangeFuncLeaves
import Derived.OwnWalkIn
import Derived.TacticsInMore
import Derived.LoopNIn
import Derived.LoopIn
import Derived.Stop.RegionWithIn
import Derived.OrdersIn
import Derived.RangeFuncKeeps
import Derived.Shelf.Abstract
set_option maxHeartbeats 3200000
set_option maxRecDepth 100000
set_option linter.unusedVariables false
namespace Go.Proofs.YtngbdbpofifimaaGreat.Law15
open Go.RowKit Go.Sort Go.Proofs.YtngbdbpofifimaaGreat.ShaW Go.Proofs.YtngbdbpofifimaaGreat.Path Go.Proofs.YtngbdbpofifimaaGreat.Store Go.Proofs.YtngbdbpofifimaaGreat.Law9 Go.Proofs.YtngbdbpofifimaaGreat.Law14
def FY (M:Nmd):List (List UInt8) := []::GX (En M)
theorem O3 (M:Nmd):(FY M).length=M.length+1:=by unfold FY;rw[List.length_cons,Jm,GW]
def Fj (root:Int) (M:Nmd) (x:List UInt8):Int:=if x = [] then root else (En M).get x
def Cv (L:AS) (M:Nmd) (x:List UInt8):AS:=if x = [] then L else ((M.find? fun p=>decide (p.1=x)).map fun p=>p.2.2).getD []
theorem Hdl.Fj {root:Int} {M:Nmd} {x:List UInt8} {hh er:Int} (h:Hdl root M x hh er) (hn:(EL M).Nodup) (hx:x∈FY M):er=0∧hh=Fj root M x:=by
 rcases h with⟨rfl,rfl,rfl⟩|⟨h1,h2,_⟩|⟨h1,rfl,p,hp,rfl,rfl⟩
 · exact⟨rfl,(if_pos rfl).symm⟩
 · rcases List.mem_cons.1 hx with e|e
   · exact absurd e h1
   obtain⟨p,hp,e⟩:=Ft e;exact absurd (by rw[←e];exact List.mem_map_of_mem hp) h2
 exact⟨rfl,by unfold Law15.Fj;rw[if_neg h1,Ga hn hp]⟩
theorem Mx {root:Int} {L:AS} {M:Nmd} {x:List UInt8} (hn:(EL M).Nodup) (hx:x∈FY M):(Fj root M x,Cv L M x)∈(root,L)::JY M:=by
 by_cases h0:x = []
 · subst h0
   unfold Fj Cv;rw[if_pos rfl,if_pos rfl];exact List.mem_cons_self ..
 have hx':x∈GX (En M):=(List.mem_cons.1 hx).resolve_left h0;obtain⟨p,hp,rfl⟩:=Ft hx'
 have hf:(M.find? fun q=>decide (q.1=p.1))=some p:=by
  clear hx hx' h0
  induction M with
  | nil=>cases hp
  | cons q M ih =>
   obtain⟨n1,n2⟩:=List.nodup_cons.1 (show(q.1::EL M).Nodup from hn);rcases List.mem_cons.1 hp with rfl|hp
   · rw[List.find?_cons_of_pos (by simp)]
   rw[List.find?_cons_of_neg (by simp;exact fun e=>n1 (by rw[e];exact List.mem_map_of_mem hp))];exact ih n2 hp
 unfold Fj Cv;rw[if_neg h0,if_neg h0,Ga hn hp,hf];exact List.mem_cons_of_mem _ (List.mem_map_of_mem (f:=fun p:List UInt8×Int×AS=>(p.2.1,p.2.2)) hp)
end Go.Proofs.YtngbdbpofifimaaGreat.Law15
namespace Go.Proofs.YtngbdbpofifimaaGreat.Store
open Go.RowKit Go.Proofs.YtngbdbpofifimaaGreat.ShaW Go.Proofs.YtngbdbpofifimaaGreat.Path
section
variable {w : World}
def bZ (w:World) (ao:Option Addr) (n cap:Nat) (l:List Int):Prop:=w.ownsRow 0 3 1 (.slice ao n cap) n (Ta l)∧l.length=n
end
end Go.Proofs.YtngbdbpofifimaaGreat.Store
namespace Go.Proofs.YtngbdbpofifimaaGreat.Store
open Go.RowKit Go.Sort Go.Proofs.YtngbdbpofifimaaGreat.ShaW Go.Proofs.YtngbdbpofifimaaGreat.Path
theorem TN:∃i,Tryz.prog.info? 9=some i∧i.zero=some (.string ByteArray.empty)∧i.size=1∧i.bytes=16:=by
 obtain⟨i,h1,h2⟩:=Option.map_eq_some_iff.1 (by kernel_rfl:(Tryz.prog.info? 9).map (fun i=>(i.zero,i.size,i.bytes))=some (some (.string ByteArray.empty),1,16));simp only[Prod.mk.injEq] at h2;exact⟨i,h1,h2.1,h2.2.1,h2.2.2⟩
theorem I8 {w:World} {ops:Array Oper} {rest:List Oper} {o:Oper} {a:Act} {Q:Exit→Act→World→Prop} (hgd:o.guard=none) (s x:Operand)
 (ho:o.op=.call { callee:=.builtin .append,args:=#[s,x],argTypes:=#[137,137] }) (v:Value) (n:Nat) (xs:List (List UInt8)) (hs:a.eval s=v) (hown:w.ownsRow 0 9 1 v n (xs.map encStr))
 (ao:Option Addr) (m c:Nat) (l:List (List UInt8)) (hx:a.eval x=.slice ao m c) (hI:NR w ao (l.map encStr)) (hm:l.length=m) (hb:n+m≤1000000)
 (h:∀v' w',w'.ownsRow 0 9 1 v' (n+m) ((xs++l).map encStr)→w.grownBy w' v.ownBlock→(v'.ownBlock=v.ownBlock∨∀k,v'.ownBlock=some k→w.heap.size≤k)→wpList Tryz.prog ops Q rest (a.put o.dst v') w'):wpList Tryz.prog ops Q (o::rest) a w:=by
 obtain⟨i0,p1,p2,p3,p4⟩:=TN;rcases Nat.eq_zero_or_pos m with h0|h0
 · have hnil:l = []:=List.eq_nil_of_length_eq_zero (by omega)
   subst hnil;subst h0
   obtain⟨base,cap,e,hle⟩:∃base cap,v=.slice base n cap∧n≤cap:=by
    rcases hown.2 with⟨rfl,h1⟩|⟨g,cap,cur,rfl,_,_,h3,_⟩
    · exact⟨none,0,by rw[h1],by omega⟩
    exact⟨_,cap,rfl,h3⟩
   have hsrc:Src Tryz.prog i0.size 137 (.slice ao 0 c) 0 [] w:=by
    cases ao with
    | none=>exact Src.ofNil w Tryz.underlying137 c
    | some ad=>exact Src.ofSlice w Tryz.underlying137 ad 0 c [] (by simp) (fun j u hu=>by simp at hu) (fun u hu=>by cases hu)
   refine wpList_plain hgd fun _ hK=>?_
   have hrun:=run_append_nothing (P:=Tryz.prog) w 137 137 o.type 9 i0 Tryz.underlying137 p1 base n cap hle _ hsrc;subst e;unfold Oper.wp;simp[execOp,ho,resolve,invoke,builtin,hs,hx,hrun,Result.andThen];exact hK _ _ (h _ w (by rw[List.append_nil];exact hown) ⟨rfl,rfl,rfl,Nat.le_refl _,fun _ _ _=>rfl⟩ (.inl rfl))
 obtain⟨g,off,rfl,_⟩:=hI 0 (encStr l[0]) (by rw[List.getElem?_map,List.getElem?_eq_getElem (by omega)];rfl);refine Ak hgd s x 137 ho 9 i0 (.string ByteArray.empty) 1 16 Tryz.underlying137 p1 p2 p3 p4 rfl (by decide) v n (xs.map encStr) hs hown ⟨g,off,none⟩ m c (l.map encStr) hx (by simp[hm]) (fun j u hu=>?_) (fun u hu=>?_) (by unfold maxLen;omega) (by omega) ?_
 · obtain⟨g',off',e,hc⟩:=hI j u hu
   cases e;rw[add_plain];exact hc
 · obtain⟨y,_,rfl⟩:=List.mem_map.1 hu
   rfl
 intro v' w' q1 q2 q3;exact h v' w' (by rw[List.map_append];exact q1) q2 q3
theorem YR (w:World) (x:List UInt8):(w.alloc (.cells #[encStr x] 9)).ownsRow 0 9 1 (.slice (some ⟨w.heap.size,0,none⟩) 1 1) 1 ([x].map encStr) :=
 ⟨by simp,.inr ⟨w.heap.size,1, #[encStr x],rfl,Nat.zero_le _,heap_alloc_new _ _,Nat.le_refl _,by unfold maxLen;decide,rfl,by simp⟩⟩
end Go.Proofs.YtngbdbpofifimaaGreat.Store
namespace Go.Proofs.YtngbdbpofifimaaGreat.Law15
open Go.RowKit Go.Sort Go.Proofs.YtngbdbpofifimaaGreat.ShaW Go.Proofs.YtngbdbpofifimaaGreat.Path Go.Proofs.YtngbdbpofifimaaGreat.Store Go.Proofs.YtngbdbpofifimaaGreat.Law9 Go.Proofs.YtngbdbpofifimaaGreat.Law14
section
variable {w0 w w' : World} {d v s room tn : Nat} {G : Nat→Prop} {σ σ' : AD Nd} {root r : Int} {L L' : AS} {M M' : Nmd}
def MJ (w:World) (ao:Option Addr) (n:Nat) (M:Nmd):Prop:=NR w ao ((FY M).map encStr)∧n=(FY M).length
theorem MJ.cell {ao:Option Addr} {n:Nat} (h:MJ w ao n M) {k:Nat} (hk:k<n):∃g off x,ao=some ⟨g,off,none⟩∧(FY M)[k]?=some x∧x∈FY M∧w.cell? ⟨g,off+k,none⟩=some (.string (BP x)):=by
 obtain⟨x,hx⟩:∃x,(FY M)[k]?=some x:=⟨_,List.getElem?_eq_getElem (by have:=h.2;omega)⟩
 obtain⟨g,off,e,hc⟩:=h.1 k (encStr x) (by rw[List.getElem?_map,hx];rfl);exact⟨g,off,x,e,hx,List.mem_of_getElem? hx,hc⟩
theorem GY (h:Dct w0 w d v s G room σ root L M tn) {x:List UInt8} (hx:x∈FY M):x.length≤maxLen:=by
 rcases List.mem_cons.1 hx with rfl|hx
 · exact Nat.zero_le _
 obtain⟨p,hp,rfl⟩:=Ft hx;exact h.lens (List.mem_map_of_mem hp)
end
end Go.Proofs.YtngbdbpofifimaaGreat.Law15
namespace Go.Proofs.YtngbdbpofifimaaGreat.Store
open Go.RowKit Go.Proofs.YtngbdbpofifimaaGreat.ShaW Go.Proofs.YtngbdbpofifimaaGreat.Path Go.Proofs.YtngbdbpofifimaaGreat.Law9
theorem UA (t:Tr) (hl:∀e∈t.ents,e.1.length=32):t.from (List.replicate 32 0)=t.ents:=by
 unfold Tr.from;refine List.filter_eq_self.2 fun e he=>?_
 have:=Nn e.1;rw[hl e he] at this;unfold geK;rw[Bool.not_eq_true',decide_eq_false_iff_not];exact this
theorem Mw {w:World} {b:Nat} {v:Value} {out:List Pr} (h:EK w b v out) (hg:∀x∈out,x.Good w):∃ao cap,v=.slice ao out.length cap∧BA w ao out:=by
 obtain⟨ao,cap,rfl⟩:=h.form;refine⟨ao,cap,rfl,hg,fun i x hx=>?_⟩;have hl:0<out.length:=by have:=(List.getElem?_eq_some_iff.1 hx).1;omega
 obtain⟨g,cap',cur,e1,_,hrow,hsz,hc,_⟩:=h.open (fun x hx=>(hg x hx).key) hl
 injection e1 with e1 _ _;subst e1;refine⟨g,0,rfl,cur,_,_,hrow,?_,?_⟩
 · rw[Pr.size (hg x (List.mem_of_getElem? hx)).key]
   have:=(List.getElem?_eq_some_iff.1 hx).1;omega
 rw[Pr.size (hg x (List.mem_of_getElem? hx)).key,Nat.zero_add];exact hc i x hx
end Go.Proofs.YtngbdbpofifimaaGreat.Store
namespace Go.Proofs.YtngbdbpofifimaaGreat.Store
open Go.RowKit Go.Sort Go.Proofs.YtngbdbpofifimaaGreat.ShaW Go.Proofs.YtngbdbpofifimaaGreat.Path Go.Proofs.YtngbdbpofifimaaGreat.Law9
def VN (w:World) (n0:Nat) (v:Value) (bs:List UInt8):Prop :=
 (v=.slice none 0 0∧bs = [])∨∃g c all,v=.slice (some ⟨g,0,none⟩) bs.length c∧n0≤g∧w.heap[g]?=some (.cells (AK all) 5 (0,0))∧all.length=c∧all.take bs.length=bs∧c≤maxLen∧bs.length≤c
theorem Om {w:World} {a b:Value} {xs ys:List UInt8} (ha:Bytes w a xs) (hb:Bytes w b ys) :
 Calls Tryz.prog 40 #[a,b] w fun e w'=>e=.returned (.bool (decide (xs=ys)))∧w'=w:=by
 have c1:=DM ha;have c2:=DM hb;obtain⟨ao,ca,rfl,_⟩:=ha.form;obtain⟨bo,cb,rfl,_⟩:=hb.form;obtain⟨A,hA⟩:∃A,A=BP xs:=⟨_,rfl⟩
 obtain⟨B,hB⟩:∃B,B=BP ys:=⟨_,rfl⟩
 have hq:(A.toList == B.toList)=decide (xs=ys):=by rw[hA,hB];exact LH xs ys
 rw[←hA] at c1;rw[←hB] at c2;obtain⟨r,hr⟩:∃r,r=decide (xs=ys):=⟨_,rfl⟩
 rw[←hr] at hq ⊢;clear hA hB ha hb hr;go_enter Tryz.func40,Tryz.ntmps40;go_wp2;go_ret;exact⟨by first|rw[hq]|rfl,rfl⟩
end Go.Proofs.YtngbdbpofifimaaGreat.Store
namespace Go.Proofs.YtngbdbpofifimaaGreat
open Go.RowKit
def dG {α:Type} (F:Fence) (n:Nat) (P:Program) (g:Nat) (lb:Array Value) (encs:α→Array Value) (Y:List α→α→World→Prop) (Kp:World→World→Prop) (S Sp:List α→Prop) (N:Nat) (w:World):Prop :=
 ∀(l:Nat) (J Jx:List α→World→Prop) (W:World),Below w.heap.size w W→AbidesFrom W.heap.size J→AbidesFrom W.heap.size Jx →
  (∀pre x W1,J pre W1→Y pre x W1→pre.length<N→YieldAt F (n-1) P l (encs x) W1 fun e W' =>
   (e=.returned (.bool true)∧J (pre ++ [x]) W'∧Kp W1 W')∨(e=.returned (.bool false)∧Jx (pre ++ [x]) W')) →
  J [] W→CallsIn F n P g (#[.func (.yield l) #[] #[]]++lb) W fun e W'=>(∃v,e=.returned v)∧((∃xs,S xs∧J xs W')∨(∃pre,Sp pre∧Jx pre W'))
variable {F : Fence} {n : Nat} {P : Program}
end Go.Proofs.YtngbdbpofifimaaGreat
namespace Go.Proofs.YtngbdbpofifimaaGreat.Store
open Go.RowKit Go.Sort Go.Proofs.YtngbdbpofifimaaGreat.ShaW Go.Proofs.YtngbdbpofifimaaGreat.Path Go.Proofs.YtngbdbpofifimaaGreat.Law9
def Yv (n0:Nat) (out:List Pr) (pre:List Pr) (x:Pr) (W:World):Prop :=
 ∃y,out[pre.length]?=some y∧x.ent=y.ent∧x.key.length=32∧x.val.length≤1024∧VN W n0 x.vv x.val
end Go.Proofs.YtngbdbpofifimaaGreat.Store
namespace Go.Proofs.YtngbdbpofifimaaGreat
open Go.RowKit
section
variable {F : Fence} {n : Nat} {P : Program} {ops : Array Oper} {Q : Exit→Act→World→Prop} {md : Region.Mode} {S : World→Prop}
def YD (P:Program) (ops:Array Oper) (S:World→Prop) (o:Oper) (v:Value) (a:Act):Prop:=YieldsIf P ops S o v a∧∀w,o.about P w a.eval=none
def XK (F:Fence) (n:Nat) (P:Program) (md:Region.Mode) (ops:Array Oper) (Q:Exit→Act→World→Prop) (S:World→Prop):Nat→Array Bool→Act→World→Prop
 | 0,listed,a,w=>Region.ready md ops listed = []∧Q .normal a w
 | f+1,listed,a,w=>Region.ready md ops listed ≠ []∧∀i∈Region.ready md ops listed,wpOpIn F n P ops Q i (fun a' w'=>S w'∧XK F n P md ops Q S f (listed.setIfInBounds i true) a' w') a w
def PE (F:Fence) (n:Nat) (P:Program) (l:List Oper) (Q:Exit→Act→World→Prop) (S:World→Prop):List (Nat×Bool)→Act→World→Prop
 | [],a,w=>Q .normal a w
 | (i,false)::r,a,w=>∃o v,l[i]?=some o∧YD P l.toArray S o v a∧PE F n P l Q S r (a.put o.dst v) w
 | (i,true)::r,a,w=>wpOpIn F n P l.toArray Q i (fun a' w'=>S w'∧PE F n P l Q S r a' w') a w
end
end Go.Proofs.YtngbdbpofifimaaGreat
namespace Go.Proofs.YtngbdbpofifimaaGreat.Store
open Go.RowKit Go.Sort Go.Proofs.YtngbdbpofifimaaGreat.ShaW Go.Proofs.YtngbdbpofifimaaGreat.Path Go.Proofs.YtngbdbpofifimaaGreat.Law9
section
variable {w : World} {s : Nat} {F : Nat→Prop} {σ : AD Nd} {root : Int} {t : Tr}
def cI (base:Nat) (w:World) (e:AS) (q:Value):Prop:=∃(b:Nat) (v:Value) (out:List Pr),q=.func (.func 171) #[] #[.pointer (some ⟨b,0,none⟩)]∧base≤b∧w.heap[b]?=some (.cells #[v] 56 (0,0))∧Told base w v out∧out.map Pr.ent=e∧v.ownBlock≠some b∧∀x∈out,x.vv.ownBlock≠some b
theorem Told.aK {b b':Nat} {v:Value} {out:List Pr} (h:Told b w v out) (hb:b'≤b):Told b' w v out :=
 ⟨(show EK _ _ _ _ from h.row).base (fun k hk=>Nat.le_trans hb (h.row.lt k hk).1),fun x hx=>by obtain⟨p,q,r⟩:=h.vals x hx;exact⟨p,q,fun k hk=>⟨Nat.le_trans hb (r k hk).1,(r k hk).2⟩⟩,h.apart⟩
end
end Go.Proofs.YtngbdbpofifimaaGreat.Store
namespace Go.Proofs.YtngbdbpofifimaaGreat.Store
open Go.RowKit Go.Shelf Go.Sort Go.Proofs.YtngbdbpofifimaaGreat.ShaW Go.Proofs.YtngbdbpofifimaaGreat.Path Go.Proofs.YtngbdbpofifimaaGreat.Law9
attribute [local go_sem] Oper.semAt_some
structure GoI (w:World) (wv:Value) (stop:Int) (m:Nat) (W:World):Prop where
 adds:Adds w W
 want:W.heap[w.heap.size]?=some (.cells #[wv] 56 (0,0))
 stop:W.heap[w.heap.size+1]?=some (.cells #[.int .i64 stop] 3 (0,0))
 ans:W.heap[w.heap.size+2]?=some (.cells #[.bool false] 4 (0,0))
 cnt:W.heap[w.heap.size+3]?=some (.cells #[.int .i64 (m:Nat)] 3 (0,0))
def GoX (w:World) (c:Code) (W:World):Prop:=c=.ret∧Adds w W∧W.heap[w.heap.size+2]?=some (.cells #[.bool true] 4 (0,0))
def XA (w:World) (q wv:Value) (stop:Int) (p:Nat) (k:Array Value) (v:Value):Array Value :=
 #[q,wv,.int .i64 stop,undef,.pointer (some ⟨w.heap.size,0,none⟩),.pointer (some ⟨w.heap.size+1,0,none⟩),.pointer (some ⟨w.heap.size+1+1,0,none⟩),.pointer (some ⟨w.heap.size+1+1+1,0,none⟩),.pointer (some ⟨p,0,none⟩),v,q,.bool false,q,.agg k,v,
  undef,undef,undef,undef,undef,undef,undef,undef,undef,undef,undef,undef,undef,undef,undef,undef,undef,undef,undef,undef,undef,undef,undef,undef,undef,undef,undef,undef,undef,undef,undef,undef,undef,undef]
end Go.Proofs.YtngbdbpofifimaaGreat.Store
namespace Go.Proofs.YtngbdbpofifimaaGreat.Law15
open Go.RowKit Go.Sort Go.Proofs.YtngbdbpofifimaaGreat.ShaW Go.Proofs.YtngbdbpofifimaaGreat.Path Go.Proofs.YtngbdbpofifimaaGreat.Store Go.Proofs.YtngbdbpofifimaaGreat.Law9 Go.Proofs.YtngbdbpofifimaaGreat.Law14
section
variable {w0 w w' : World} {d v s room tn : Nat} {G : Nat→Prop} {σ σ' : AD Nd} {root r : Int} {L L' : AS} {M M' : Nmd} {x key : List UInt8}
theorem Db.leaves {σ:AD Nd} {root:Int} {L:AS} (D:Db σ root L):(tree 256 L).leaves=L.length:=by rw[←Tr.Eh,D.ents.length_eq]
def Yg (w:World) (root:Int) (L:AS) (M:Nmd) (x:List UInt8) (e:Ending) (w':World):Prop :=
 Adds w w'∧∃n er hh Lx,e=.returned (.tuple #[.int .i64 n,.int .i64 er])∧Pv root L M x hh er Lx∧n=if er=0 then (Lx.length:Int) else 0
theorem Yc (h:Dct w0 w d v s G room σ root L M tn) (hx:x.length≤maxLen):Calls Tryz.prog 48 #[.pointer (some ⟨d,0,none⟩),.string (BP x)] w (Yg w root L M x):=by
 have hhd:=FF h hx;obtain⟨S,hS⟩:∃S,S=BP x:=⟨_,rfl⟩
 rw[←hS] at hhd ⊢;have HN:=Lib.hid hhd;have HH:=Lib.hid h;have c1:w.cell? ⟨d,1,none⟩=some (.pointer (some ⟨s,0,none⟩)):=AH h.cell rfl;clear hhd hS h;go_enter Tryz.func48,Tryz.ntmps48;go_wp2_with fail;refine HN.out.mono ?_;rintro e w3 ⟨hh,he,rfl,rfl,hd⟩;obtain⟨Lx,hdl⟩:=hd.pick L;have HD:=Lib.hid hdl;clear hd hdl;by_cases h0:he=0
 · have H0:=Lib.hid h0
   have hfd:Calls Tryz.prog 72 #[.pointer (some ⟨s,0,none⟩),.int .i64 hh] w fun e w'=>e=.returned (.tuple #[.int .i64 ((Lx.length:Nat):Int),.int .i64 0])∧Adds w w':=by
    obtain⟨F,hF⟩:=HH.out.at;have D:=HH.out.rts.db (HD.out.mem h0);rw[←Db.leaves D];exact T6 hF HH.out.rts.good D.rep (CI D.hand)
   have HF:=Lib.hid hfd;obtain⟨n,hn⟩:∃n,n=Lx.length:=⟨_,rfl⟩
   rw[←hn] at HF;have HNN:=Lib.hid hn;subst h0;clear hfd hn;go_wp2_with fail;refine HF.out.mono ?_;rintro e w4 ⟨rfl,a4⟩;have A4:=Lib.hid a4;clear a4;go_wp2;go_ret2;exact⟨A4.out,_,0,hh,Lx,rfl,HD.out,by rw[if_pos rfl,HNN.out]⟩
 have H0:=Lib.hid h0;go_wp2;go_ret2;exact⟨Ch.refl _ _,0,he,hh,Lx,rfl,HD.out,by rw[if_neg H0.out]⟩
def Ud (w:World) (root:Int) (L:AS) (M:Nmd) (x key:List UInt8) (most:Int) (e:Ending) (w':World):Prop :=
 Adds w w'∧∃v er,e=.returned (.tuple #[v,.int .i64 er])∧((key.length≠32∧er=3∧v=.slice none 0 0)∨(key.length=32∧∃hh he Lx,Pv root L M x hh he Lx∧((he≠0∧er=he∧v=.slice none 0 0) ∨
  (he=0∧(most<0∨256<most)∧er=2∧v=.slice none 0 0)∨(he=0∧0≤most∧most≤256∧er=0∧∃out,Store.Told w.heap.size w' v out∧out.map Pr.ent=((tree 256 Lx).from key).take most.toNat))))
theorem Vb (h:Dct w0 w d v s G room σ root L M tn) (hx:x.length≤maxLen) {kv:Value} (hk:Bytes w kv key) (most:Int):Calls Tryz.prog 92 #[.pointer (some ⟨d,0,none⟩),.string (BP x),kv,.int .i64 most] w (Ud w root L M x key most):=by
 have hn:=JV h hk;have hhd:=fun w1 (a:Adds w w1)=>FF (h.adds a) hx
 obtain⟨K,hK⟩:∃K,K=AK (Co key):=⟨_,rfl⟩
 have hks:K.size=32:=by rw[hK,AN,Cy]
 have hk1:∀v∈K.toList,v.oneCell'=true:=by rw[hK];exact Ae _
 rw[←hK] at hn;obtain⟨Z,hZ⟩:∃Z,Z=AK (List.replicate 32 0):=⟨_,rfl⟩
 have hzd:=Ef;have hZs:Z.size=32:=by rw[hZ];rfl
 rw[←hZ] at hzd;obtain⟨S,hS⟩:∃S,S=BP x:=⟨_,rfl⟩
 rw[←hS] at hhd ⊢;have HZ:=(hIq hzd (aIq hZs (aIq hks hk1)))
 have HK:=Lib.hid hK;have HN:=(hIq hn hhd)
 have HH:=Lib.hid h;clear hzd hZs hZ hn hks hk1 hK hk hhd hS;by_cases h32:key.length=32
 · have e3:DA key=0:=by unfold DA;rw[if_pos h32]
   rw[e3] at HN;have e4:Co key=key:=by unfold Co;rw[if_pos h32]
   have HE:=(hIq h32 e4)
   clear e3 e4 h32 h;go_enter Tryz.func92,Tryz.ntmps92;go_wp2_with fail;refine HN.out.1.mono ?_;rintro e w1 ⟨rfl,a1⟩;have A1:=Lib.hid a1;clear a1
   go_upto_region 4 with(first
    | fail
    | ((with_reducible show zOq (.alloc 47));refine AI rfl 47 rfl (.agg Z) HZ.out.1 ?_;dsimp only[Value.cells];try simp only[World.size_alloc])
    | ((with_reducible show zOq (.store 47 _ _));refine AE rfl 47 _ _ rfl w1.heap.size 0 K rfl rfl (heap_alloc_new _ _) (by rw[AY,HZ.out.2.2.1]) (by rw[HZ.out.2.1,HZ.out.2.2.1];exact Nat.le_of_eq (Nat.zero_add _)) HZ.out.2.2.2 K (by rw[AJ _ _ (by rw[Array.length_toList,Array.length_toList,HZ.out.2.1,HZ.out.2.2.1])]) ?_))
   refine BJ (fun w2 hw2=>?_);have a2:Adds w w2:=by rw[hw2];exact(A1.out.alloc _).setRow (.inr A1.out.size) _
   have r2:w2.heap[w1.heap.size]?=some (.cells K 47 (0,0)):=by rw[hw2];exact AF (heap_alloc_new w1 (.cells Z 47)) K
   have H2:=(hIq a2 (aIq r2 (HH.out.adds a2).cell))
   clear a2 r2 hw2;go_wp2_with fail;refine(HN.out.2 _ H2.out.1).mono ?_;rintro e w3 ⟨hh,he,rfl,rfl,hd⟩;obtain⟨Lx,hdl⟩:=hd.pick L;have HD:=Lib.hid hdl;clear hd hdl;by_cases h0:he=0
   · have H0:=Lib.hid h0
     have hfd:Calls Tryz.prog 26 #[.pointer (some ⟨s,0,none⟩),.int .i64 hh,.agg K,.int .i64 most] w2.drew fun e w'=>Adds w2.drew w'∧∃v er,e=.returned (.tuple #[v,.int .i64 er])∧(((most<0∨256<most)∧er=2∧v=.slice none 0 0)∨(0≤most∧most≤256∧er=0∧∃out,Store.Told w.heap.size w' v out∧out.map Pr.ent=((tree 256 Lx).from (Co key)).take most.toNat)):=by
      obtain⟨F,hF⟩:=(HH.out.adds H2.out.1.drew).at;have D:=HH.out.rts.db (HD.out.mem h0);rw[HK.out];by_cases hm:most<0∨256<most
      · refine(Wj hF (CI D.hand) _ most hm).mono ?_
        rintro e w' ⟨rfl,a⟩;exact⟨a,_,_,rfl,.inl ⟨hm,rfl,rfl⟩⟩
      refine(Xj hF HH.out.rts.good D.rep (CI D.hand) (Co key) (Cy key) most ⟨by omega,by omega⟩).mono ?_;rintro e w' ⟨v,out,rfl,ht,ho,a⟩;exact⟨a,_,_,rfl,.inr ⟨by omega,by omega,rfl,out,ht.aK H2.out.1.size,ho⟩⟩
     have HF:=Lib.hid hfd;subst h0;clear hfd;go_wp2;refine AO (fun w0=>w0.heap[d]?=some (.cells (Od v s root) 115 (0,0))∧w0.heap[w1.heap.size]?=some (.cells K 47 (0,0))) 12 [(0,false),(1,false),(2,false),(3,false),(4,false),(5,false),(6,false),(7,true),(8,false),(9,false),(10,false),(11,false)] (by kernel_rfl) (by kernel_rfl) ?_ ?_
     · exact⟨AP H2.out.2.2,AP H2.out.2.1⟩
     iterate 3
      iterate 1 refine plan_look rfl rfl (fun w0 hS=>(by go_simp;try rfl)) ?_
      simp only[Act.put,nAq,nBq,nCq]
     refine plan_look (v:=.pointer (some ⟨s,0,none⟩)) rfl rfl (fun w0 hS=>(by have e0:w0.cell? ⟨d,1,none⟩=some (.pointer (some ⟨s,0,none⟩)):=AH hS.1 rfl;clear hS;go_simp;try rfl)) ?_;simp only[Act.put,nAq,nBq,nCq]
     iterate 1 refine plan_look rfl rfl (fun w0 hS=>(by go_simp;try rfl)) ?_
     simp only[Act.put,nAq,nBq,nCq];refine Ah (cur:=K) (t:=47) (fr:=(0,0)) rfl rfl 47 _ rfl w1.heap.size 0 32 rfl (fun w0 hS=>hS.2) Tryz.underlying47 rfl AY (by rw[HZ.out.2.2.1];exact Nat.le_of_eq (Nat.zero_add _)) K (by have:=HZ.out.2.2.1;simp[←this]) ?_;simp only[Act.put,nAq,nBq,nCq]
     iterate 1 refine plan_look rfl rfl (fun w0 hS=>(by go_simp;try rfl)) ?_
     simp only[Act.put,nAq,nBq,nCq];refine AV rfl ?_;go_wp2_with fail;refine HF.out.mono ?_;rintro e w3 ⟨a3,v3,er3,rfl,hc3⟩;have A3:=(hIq (H2.out.1.drew.trans a3 (fun _=>fEq)) (aIq (a3.row (AP H2.out.2.2) id) (aIq (a3.row (AP H2.out.2.1) id) hc3)))
     clear a3 hc3;dsimp only;go_step;refine wpList_nil ?_;change _∧_;refine⟨⟨A3.out.2.1,A3.out.2.2.1⟩,?_⟩
     iterate 4
      refine plan_look rfl rfl (fun w0 hS=>(by clear hS;go_simp;try rfl)) ?_;simp only[Act.put,nAq,nBq,nCq]
     refine AZ ?_;simp only[List.drop_succ_cons,List.drop_zero];go_wp2;refine NoPanic.normal ?_;go_wp2;go_ret2;refine⟨A3.out.1,v3,er3,rfl,.inr ⟨HE.out.1,hh,0,Lx,HD.out,?_⟩⟩;have h3:=A3.out.2.2.2;rw[HE.out.2] at h3;rcases h3 with⟨h1,h2,h3⟩|⟨h1,h2,h3,h4⟩
     · exact .inr (.inl ⟨rfl,h1,h2,h3⟩)
     exact .inr (.inr ⟨rfl,h1,h2,h3,h4⟩)
   have H0:=Lib.hid h0;go_wp2;go_ret2;exact⟨H2.out.1,.slice none 0 0,he,rfl,.inr ⟨HE.out.1,hh,he,Lx,HD.out,.inl ⟨H0.out,rfl,rfl⟩⟩⟩
 have e3:DA key=3:=by unfold DA;rw[if_neg h32]
 rw[e3] at HN;have HE:=Lib.hid h32;clear e3 h32 h;go_enter Tryz.func92,Tryz.ntmps92;go_wp2_with fail;refine HN.out.1.mono ?_;rintro e w1 ⟨rfl,a1⟩;have A1:=Lib.hid a1;clear a1
 go_wp2_with (first
  | fail
  | ((with_reducible show zOq (.alloc 47));refine AI rfl 47 rfl (.agg Z) HZ.out.1 ?_;dsimp only[Value.cells];try simp only[World.size_alloc])
  | ((with_reducible show zOq (.store 47 _ _));refine AE rfl 47 _ _ rfl w1.heap.size 0 K rfl rfl (heap_alloc_new _ _) (by rw[AY,HZ.out.2.2.1]) (by rw[HZ.out.2.1,HZ.out.2.2.1];exact Nat.le_of_eq (Nat.zero_add _)) HZ.out.2.2.2 K (by rw[AJ _ _ (by rw[Array.length_toList,Array.length_toList,HZ.out.2.1,HZ.out.2.2.1])]) ?_))
 go_ret2;exact⟨(A1.out.alloc _).setRow (.inr A1.out.size) _,.slice none 0 0,3,rfl,.inl ⟨HE.out,rfl,rfl⟩⟩
end
theorem S9 {σ:AD Nd} {root:Int} {L:AS} (D:Db σ root L) {out:List Pr} (ho:out.map Pr.ent=((tree 256 L).from (List.replicate 32 0)).take 256) :
 out.length=min L.length 256∧Df out∧(L.length≤256→tree 256 (out.map Pr.ent)=tree 256 L):=by
 obtain⟨h1,_,h3⟩:=D.rep.ents D.good.fit;have h4:=D.ents;rw[UA _ (fun e he=>(h1 e he).1)] at ho
 have hl:out.length=min L.length 256:=by
  have:=congrArg List.length ho;rw[List.length_map,List.length_take,h4.length_eq] at this;omega
 refine⟨hl,⟨by omega,fun x hx=>?_,?_⟩,fun h=>?_⟩
 · have:x.ent∈(tree 256 L).ents:=List.mem_of_mem_take (by rw[←ho];exact List.mem_map_of_mem hx)
   exact(h1 _ this).2
 · have h5:out.map (·.key)=((tree 256 L).ents.take 256).map Prod.fst:=by rw[←ho,List.map_map];rfl
   rw[h5];refine List.pairwise_map.2 ((h3.sublist (List.take_sublist _ _)).imp fun {a b} h e=>?_);unfold Ltk at h;rw[e,Hs] at h;omega
 rw[ho,List.take_of_length_le (by rw[h4.length_eq];exact h)];exact IW 256 h4
section
variable {w0 w w' : World} {d v s room tn : Nat} {G : Nat→Prop} {σ : AD Nd} {root : Int} {L : AS} {M : Nmd} {x key : List UInt8}
theorem Pv.all {hh he:Int} {Lx:AS} (h:Pv root L M x hh he Lx) (hn:(EL M).Nodup) (hx:x∈FY M):he=0∧hh=Fj root M x∧Lx=Cv L M x:=by
 rcases h with⟨rfl,rfl,rfl,rfl⟩|⟨h1,h2,_⟩|⟨h1,rfl,p,hp,rfl,rfl,rfl⟩
 · exact⟨rfl,(if_pos rfl).symm,(if_pos rfl).symm⟩
 · rcases List.mem_cons.1 hx with e|e
   · exact absurd e h1
   obtain⟨p,hp,e⟩:=Ft e;exact absurd (by rw[←e];exact List.mem_map_of_mem hp) h2
 refine⟨rfl,by unfold Fj;rw[if_neg h1,Ga hn hp],?_⟩
 have hf:(M.find? fun q=>decide (q.1=p.1))=some p:=by
  clear hx h1
  induction M with
  | nil=>cases hp
  | cons q M ih =>
   obtain⟨n1,n2⟩:=List.nodup_cons.1 (show(q.1::EL M).Nodup from hn);rcases List.mem_cons.1 hp with rfl|hp
   · rw[List.find?_cons_of_pos (by simp)]
   rw[List.find?_cons_of_neg (by simp;exact fun e=>n1 (by rw[e];exact List.mem_map_of_mem hp))];exact ih n2 hp
 unfold Cv;rw[if_neg h1,hf];rfl
theorem Dct.name (h:Dct w0 w d v s G room σ root L M tn) (hx:x∈FY M):Db σ (Fj root M x) (Cv L M x):=h.rts.db (Mx h.nd hx)
theorem O9 (h:Dct w0 w d v s G room σ root L M tn) (hx:x∈FY M):Calls Tryz.prog 48 #[.pointer (some ⟨d,0,none⟩),.string (BP x)] w fun e w'=>e=.returned (.tuple #[.int .i64 (((Cv L M x).length:Nat):Int),.int .i64 0])∧Adds w w':=by
 refine(Yc h (GY h hx)).mono ?_;rintro e w' ⟨a,n,er,hh,Lx,rfl,hd,hn⟩;obtain⟨rfl,_,rfl⟩:=hd.all h.nd hx;rw[if_pos rfl] at hn;rw[hn];exact⟨rfl,a⟩
theorem KM (h:Dct w0 w d v s G room σ root L M tn) (hx:x∈FY M):Calls Tryz.prog 11 #[.pointer (some ⟨d,0,none⟩),.string (BP x)] w fun e w'=>e=.returned (.tuple #[.agg (AK (tree 256 (Cv L M x)).dig),.int .i64 0])∧Adds w w':=by
 refine(Vz h (GY h hx)).mono ?_;rintro e w' ⟨hh,er,H,rfl,a,hd,hl,hg,_⟩;obtain⟨rfl,rfl⟩:=hd.Fj h.nd hx;rw[hg rfl _ (Mx h.nd hx)];exact⟨rfl,a⟩
theorem Ur (h:Dct w0 w d v s G room σ root L M tn) (hx:x∈FY M) {kv:Value} (hk:Bytes w kv key) (h32:key.length=32):Calls Tryz.prog 47 #[.pointer (some ⟨d,0,none⟩),.string (BP x),kv] w fun e w'=>Adds w w'∧((key∉keysOf (Cv L M x)∧e=.returned (.tuple #[.slice none 0 0,.bool false,.int .i64 0]))∨(∃bs v,(key,bs)∈Cv L M x∧e=.returned (.tuple #[v,.bool true,.int .i64 0])∧Bytes w' v bs∧∀k,v.ownBlock=some k→w.heap.size≤k∧k<w'.heap.size)):=by
 refine(XG h (GY h hx) hk).mono ?_;rintro e w' ⟨a,v',is,er,rfl,hc⟩;rcases hc with⟨h1,_⟩|⟨_,hh,he,Lx,hd,hc⟩
 · exact absurd h32 h1
 obtain⟨rfl,_,rfl⟩:=hd.all h.nd hx;rcases hc with⟨h1,_⟩|⟨_,rfl,hc⟩
 · exact absurd rfl h1
 rcases hc with⟨rfl,h2,rfl⟩|⟨rfl,bs,h2,h3,h4⟩
 · exact⟨a,.inl ⟨h2,rfl⟩⟩
 exact⟨a,.inr ⟨bs,v',h2,rfl,h3,h4⟩⟩
end
end Go.Proofs.YtngbdbpofifimaaGreat.Law15
namespace Go.Proofs.YtngbdbpofifimaaGreat.Store
open Go.RowKit Go.Proofs.YtngbdbpofifimaaGreat.ShaW Go.Proofs.YtngbdbpofifimaaGreat.Path Go.Proofs.YtngbdbpofifimaaGreat.Law9
theorem WO:Tryz.prog.underlying 56=some (.slice (Tryz.prog.elem 56)):=by kernel_rfl
theorem YT:(Tryz.prog.info? (Tryz.prog.elem 56)).map (·.size)=some 33:=by kernel_rfl
theorem Xu (w:World):(sizeOf (Tryz.prog.elem 56)).run Tryz.prog w=.ok 33 w:=by
 have hs:=YT;cases hq:Tryz.prog.info? (Tryz.prog.elem 56) with
 | none=>rw[hq] at hs;cases hs
 | some inf =>
  rw[hq] at hs;have hs':inf.size=33:=by simpa using hs
  simp[sizeOf,typeInfo,hq,hs']
def MT (ao:Option Addr) (cap i:Nat):Option Addr:=if cap=i then ao else ao.map (fun x=>x.add (i*33))
end Go.Proofs.YtngbdbpofifimaaGreat.Store
namespace Go.Proofs.YtngbdbpofifimaaGreat.Law15
open Go.RowKit Go.Sort Go.Proofs.YtngbdbpofifimaaGreat.ShaW Go.Proofs.YtngbdbpofifimaaGreat.Path Go.Proofs.YtngbdbpofifimaaGreat.Store Go.Proofs.YtngbdbpofifimaaGreat.Law9 Go.Proofs.YtngbdbpofifimaaGreat.Law14
section
variable {w0 w w' : World} {d v s room tn : Nat} {G : Nat→Prop} {σ : AD Nd} {root : Int} {L : AS} {M : Nmd} {x key : List UInt8}
def Xy (w:World) (L:AS) (e:Ending) (w':World):Prop:=Adds w w'∧∃v out,e=.returned (.tuple #[v,.int .i64 0])∧Store.Told w.heap.size w' v out∧out.length=min L.length 256∧Df out∧(L.length≤256→tree 256 (out.map Pr.ent)=tree 256 L)
theorem TM (h:Dct w0 w d v s G room σ root L M tn) (hx:x∈FY M) {kv:Value} (hk:Bytes w kv (List.replicate 32 0)):Calls Tryz.prog 92 #[.pointer (some ⟨d,0,none⟩),.string (BP x),kv,.int .i64 256] w (Xy w (Cv L M x)):=by
 refine(Vb h (GY h hx) hk 256).mono ?_;rintro e w' ⟨a,v',er,rfl,hc⟩;rcases hc with⟨h1,_⟩|⟨_,hh,he,Lx,hd,hc⟩
 · exact absurd (by simp) h1
 obtain⟨rfl,_,rfl⟩:=hd.all h.nd hx;rcases hc with⟨h1,_⟩|⟨_,h1,_⟩|⟨_,_,_,rfl,out,ht,ho⟩
 · exact absurd rfl h1
 · omega
 have ho':out.map Pr.ent=((tree 256 (Cv L M x)).from (List.replicate 32 0)).take 256:=ho;obtain⟨g1,g2,g3⟩:=S9 (h.name hx) ho';exact⟨a,_,out,rfl,ht,g1,g2,g3⟩
end
theorem Te (ao:Option Addr) (len cap i j:Nat) (h1:i≤j) (h2:j≤cap) (w:World) :
 (Instr.sliceAt 56 (.slice ao len cap) (some (.int .i64 (i:Int))) (some (.int .i64 (j:Int))) none).run Tryz.prog w=.ok (.slice (Store.MT ao cap i) (j-i) (cap-i)) w:=by
 rw[run_sliceAt_slice w _ _ _ _ _ WO,run_slice_lh w _ ao len cap WO .i64 .i64 (i:Int) (j:Int) (by omega) (by omega) (by omega)];simp only[Xu w,Result.andThen_ok,sliced,Int.toNat_natCast];rfl
theorem Q8 {w:World} {ao:Option Addr} {l:List Pr} {cap:Nat} (h:BA w ao l) (hc:l.length≤cap) (i j:Nat):BA w (Store.MT ao cap i) ((l.drop i).take j):=by
 refine⟨fun x hx=>h.1 x (List.mem_of_mem_drop (List.mem_of_mem_take hx)),fun k x hk=>?_⟩
 have hk':l[i+k]?=some x:=by
  have:=List.getElem?_take_of_lt (l:=l.drop i) (show k<j by
   have:=(List.getElem?_eq_some_iff.1 hk).1;rw[List.length_take] at this;omega)
  rw[this,List.getElem?_drop] at hk;exact hk
 have hlt:=(List.getElem?_eq_some_iff.1 hk').1;obtain⟨g,off,rfl,hp⟩:=h.2 (i+k) x hk';refine⟨g,off+i*33,?_,?_⟩
 · unfold Store.MT
   rw[if_neg (by omega),Option.map_some,add_plain]
 rw[show off+i*33+k*33=off+(i+k)*33 by rw[Nat.add_mul];omega];exact hp
def YW (w:World) (b:Nat) (v:Value) (l:List Ay):Prop:=Ck 131 3 Ay.cells w b v l
theorem Wi (x:Ay):x.cells.size=3:=rfl
theorem YW.at {w:World} {b:Nat} {v:Value} {l:List Ay} (h:YW w b v l) (hg:∀x∈l,x.Good w):∃ao cap,v=.slice ao l.length cap∧Ge w ao l:=by
 obtain⟨ao,cap,e,h1,_⟩:=Ck.row h (fun x hx=>Wi x) (by decide);exact⟨ao,cap,e,hg,h1⟩
theorem Vo:∃i z,Tryz.prog.info? 131=some i∧i.zero=some z∧i.size=3∧i.bytes=56∧z.cells.size=3:=by
 obtain⟨i,h1,h2⟩:=Option.map_eq_some_iff.1 (by kernel_rfl:(Tryz.prog.info? 131).map (fun i=>(i.size,i.bytes,i.zero.map (fun z=>z.cells.size)))=some (3,56,some 3));simp only[Prod.mk.injEq,Option.map_eq_some_iff] at h2;obtain⟨h2,h3,z,h4,h5⟩:=h2;exact⟨i,z,h1,h4,h2,h3,h5⟩
end Go.Proofs.YtngbdbpofifimaaGreat.Law15
namespace Go.Proofs.YtngbdbpofifimaaGreat.Store
open Go.RowKit Go.Proofs.YtngbdbpofifimaaGreat.ShaW Go.Proofs.YtngbdbpofifimaaGreat.Path Go.Proofs.YtngbdbpofifimaaGreat.Law9
theorem Lr (x:Int) (n:Nat) (hn:0<n) (hn2:n≤1000000) (w:World):Calls Tryz.prog 7 #[.int .i64 x,.int .i64 n] w fun e w'=>e=.returned (.int .i64 (pick x n))∧w=w':=by
 have h1:=Int.lt_tmod_of_pos x (show(0:Int)<n by omega);have h2:=Int.tmod_lt_of_pos x (show(0:Int)<n by omega);have hw0:IntKind.i64.wrap (Int.tmod x n)=Int.tmod x n:=IntWalk.i64_in _ (by omega);have hw:IntKind.i64.wrap (Int.tmod x n+n)=Int.tmod x n+n:=IntWalk.i64_in _ (by omega);have hz:((n:Int) == 0)=false:=by simpa using (show ¬(n:Int)=0 by omega)
 unfold pick;by_cases h0:Int.tmod x n<0
 · rw[if_pos h0]
   go_enter Tryz.func7,Tryz.ntmps7;go_wp2;go_ret;exact⟨rfl,rfl⟩
 rw[if_neg h0];have hx0:decide (Int.tmod x n<0)=false:=decide_eq_false h0;go_enter Tryz.func7,Tryz.ntmps7;go_wp2;go_ret;exact⟨rfl,rfl⟩
end Go.Proofs.YtngbdbpofifimaaGreat.Store
namespace Go.Proofs.YtngbdbpofifimaaGreat.Law15
open Go.RowKit Go.Sort Go.Proofs.YtngbdbpofifimaaGreat.ShaW Go.Proofs.YtngbdbpofifimaaGreat.Path Go.Proofs.YtngbdbpofifimaaGreat.Store Go.Proofs.YtngbdbpofifimaaGreat.Law9 Go.Proofs.YtngbdbpofifimaaGreat.Law14
theorem YI {w:World} {a:CE} (h:a.Good w):a.cells.size=6∧∀v∈a.cells.toList,v.oneCell'=true:=by
 refine⟨rfl,fun v hv=>?_⟩;obtain⟨ao,c,e,_⟩:=h.key.form;obtain⟨bo,c2,e2,_⟩:=h.val.form;simp[CE.cells] at hv;rcases hv with rfl|rfl|rfl|rfl|rfl|rfl
 · rfl
 · rfl
 · rw[e];rfl
 · rw[e2];rfl
 · rfl
 rfl
theorem J4:(Tryz.prog.info? 32).map (·.size)=some 6:=by kernel_rfl
section
variable {w0 w w' : World} {d v s room tn : Nat} {G G' : Nat→Prop} {σ σ' : AD Nd} {root r : Int} {L L' : AS} {M M' : Nmd}
structure ZG (W w:World) (d v s room:Nat) (σ:AD Nd) (root:Int) (L:AS) (M:Nmd) (tn:Nat):Prop where
 dct:Dct W w d v s (fun _=>False) room σ root L M tn
 few:M.length≤16
 fit:∀p∈M,DP p.1=true
def VU:Array Value:=#[.int .u8 0,.string ByteArray.empty,.slice none 0 0,.slice none 0 0,.slice none 0 0,.int .i64 0]
theorem Rl:(Tryz.prog.info? 32).bind (·.zero)=some (.agg VU):=by kernel_rfl
end
def unl (ks:List (List UInt8)):Nat→Nat
 | 0=>0
 | k+1=>unl ks k+(match ks[k]? with|some x=>if x∈ks.take k then 0 else 1|none=>0)
def ZN (l:List Ay):List (List UInt8):=l.map (·.kb)
theorem Sy (l:List Ay):(l.map Ay.wm).map (·.key)=ZN l:=by
 rw[List.map_map];rfl

end Go.Proofs.YtngbdbpofifimaaGreat.Law15
namespace Go.Proofs.YtngbdbpofifimaaGreat.Tag
theorem J9:CJ = [110,52,11,156,255,179,122,152,156,165,68,230,187,120,10,44,120,144,29,63,179,55,56,118,133,17,163,6,23,175,160,29]:=by decide +kernel
end Go.Proofs.YtngbdbpofifimaaGreat.Tag
