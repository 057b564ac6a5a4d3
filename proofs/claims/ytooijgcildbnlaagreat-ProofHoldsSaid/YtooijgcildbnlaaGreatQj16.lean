/- Laws of the layers below. -/
import Derived.Test.YtooijgcildbnlaaGreatQj15
import Derived.Maps.OwnSet
import Derived.Maps.OwnOps
import Derived.Maps.RangeWalk
import Derived.Shelf.Sort.Plain
import Derived.Shelf.Slices.In.SortNone2
import Derived.Test.YtooijgcildbnlaaGreatChecked
import Derived.Sort.OwnSortedInts
import Derived.Lib.SliceRun
set_option maxHeartbeats 3200000
set_option maxRecDepth 100000
set_option linter.unusedVariables false
namespace Go.Proofs.YtooijgcildbnlaaGreat.Store
open Go.RowKit Go.Proofs.YtooijgcildbnlaaGreat.ShaW Go.Proofs.YtooijgcildbnlaaGreat.Path
section
variable {w0 w : World} {s : Nat} {σ σ' σ0 σ1 : AD Nd} {F G : Nat→Prop} {root r now : Int} {t : Tr} {L L' : AQ} {key bs : List UInt8} {n : Nat} {R R' : List (Int×AQ)}
structure Step (σ σ':AD Nd) (root r:Int):Prop where
 good:Good σ'
 agree:∀k x,sk σ k=some x→sk σ' k=none∨sk σ' k=some x
 held:∀k,k≠0→Store.held σ' k=Store.held σ k-(if k=root then 1 else 0)+(if k=r then 1 else 0)
theorem Step.refl (h:Good σ) (root:Int):Step σ σ root root:=⟨h,fun _ _ hx=>.inr hx,fun k _=>by split<;>omega⟩
theorem Step.An (h:Step σ σ' root r) (hz:sk σ 0=none) {k:Int} {d:Nat} {t:Tr} (hr:Rep (sk σ) k d t) (h0:k=0∨∃y,sk σ' k=some y):Rep (sk σ') k d t:=by
 have back:∀k n,sk σ k=some n→(k=0∨∃m,sk σ' k=some m)→sk σ' k=some n:=fun k n hn hk=>by
  rcases hk with rfl|⟨m,hm⟩
  · rw[hz] at hn;cases hn
  rcases h.agree k n hn with e|e
  · rw[e] at hm;cases hm
  exact e
 have hc:=Sound.closed h.good.sound
 induction hr with
 | nil=>exact .nil
 | leaf hn hk=>exact .leaf (back _ _ hn h0) hk
 | node hn hk hd _ _ ihl ihr =>
  have:=back _ _ hn h0;exact .node this hk hd (ihl (hc _ _ this).1) (ihr (hc _ _ this).2)
theorem JY {k:Int} (h:1≤Store.held σ k):∃x,sk σ k=some x:=by
 obtain⟨x,hx,_⟩:=A8 h;exact⟨_,Bq hx⟩
theorem DZ {k:Int} (h:sk σ k=none) (hs:Sound σ []):Store.held σ k=0:=by
 have hn:=Bi hs k;by_cases e:1≤Store.held σ k
 · obtain⟨x,hx⟩:=JY e
   rw[h] at hx;cases hx
 omega
theorem M1 (hs:Sound σ []) {h:Int} (hh:1≤Store.held σ h) (k:Int):Store.held (Ai σ h).2.2 k=Store.held σ k-(if k=h then 1 else 0):=by
 obtain⟨_,_,_,g3,g4,_,_,_⟩:=Cv hs hh;have hd:=IA hs hh k;have hn:=Bi hs k;by_cases e:k=h
 · subst e
   rw[if_pos rfl] at hd ⊢;by_cases h2:2≤Store.held σ k
   · exact(g4 h2).2
   rcases hd with e|e<;>omega
 rw[if_neg e] at hd ⊢;by_cases h1:1≤Store.held σ k
 · rw[(g3 k e h1).2];omega
 rcases hd with e|e<;>omega
theorem Hw (G:Good σ) {h:Int} (hh:1≤Store.held σ h):Step σ (Ai σ h).2.2 h 0:=by
 obtain⟨_,_,g2,_⟩:=Cv G.sound hh;refine⟨G.drop h,fun k x hx=>?_,fun k hk=>by rw[M1 G.sound hh,if_neg hk];omega⟩;rcases g2 k with e|e
 · exact .inl e
 exact .inr (e.trans hx)
theorem PutMid.Ws (h:PutMid σ0 σ key now 0 t n) (G:Good σ0) (k:Int):Store.held σ k=Store.held σ0 k+(if k=now then 1 else 0):=by
 have hn:=Bi h.good.sound k;by_cases e:k=now
 · subst e
   rw[if_pos rfl,h.one,DZ h.fresh G.sound];rfl
 rw[if_neg e];cases hx:sk σ0 k with
 | some x=>rw[(h.old k x hx).2];omega
 | none =>
  rw[DZ hx G.sound];by_cases h1:1≤Store.held σ k
  · rcases h.only k h1 with h2|h2
    · exact absurd h2 e
    rw[DZ hx G.sound] at h2;omega
  omega
theorem PutMid.step (h:PutMid σ0 σ key now 0 t n) (G:Good σ0) (hh:root=0∨1≤Store.held σ0 root):Step σ0 (if root≠0 then (Ai σ root).2.2 else σ) root now:=by
 have hh':=h.Ws G;by_cases h0:root=0
 · rw[if_neg (by simpa using h0)]
   exact⟨h.good,fun k x hx=>.inr (h.old k x hx).1,fun k hk=>by rw[hh',h0,if_neg hk];omega⟩
 rw[if_pos h0];have hr:=hh.resolve_left h0;have hr1:1≤Store.held σ root:=by rw[hh'];split<;>omega
 have hd:=Hw h.good hr1;refine⟨hd.good,fun k x hx=>hd.agree k x (h.old k x hx).1,fun k hk=>?_⟩;rw[hd.held k hk,hh',if_neg hk];omega
def roots (R:List (Int×AQ)) (k:Int):Nat:=R.countP (fun p=>p.1 == k)
theorem DQ (p:Int×AQ) (R:List (Int×AQ)) (k:Int):roots (p::R) k=roots R k+(if k=p.1 then 1 else 0):=by
 unfold roots;rw[List.countP_cons];by_cases e:k=p.1
 · simp[e]
 have:¬p.1=k:=fun h=>e h.symm
 simp[e,this]
theorem Lr {p:Int×AQ} (h:p∈R):1≤roots R p.1:=List.countP_pos_iff.2 ⟨p,h,by simp⟩
structure BH (σ:AD Nd) (R:List (Int×AQ)):Prop where
 good:Good σ
 held:∀k,k≠0→Store.held σ k=(roots R k:Nat)
 rep:∀p∈R,Rep (sk σ) p.1 0 (tree 256 p.2)
 nodup:∀p∈R,(keysOf p.2).Nodup
 len:∀p∈R,∀q∈p.2,q.1.length=32
theorem BH.new (n:Nat) (h1:1≤n) (h2:n≤65536):BH ⟨n,[],[]⟩ []:=by
 refine⟨Good.new n h1 h2,fun k hk=>?_,fun p hp=>(by cases hp),fun p hp=>(by cases hp),fun p hp=>(by cases hp)⟩;rw[DZ (by unfold sk AD.get?;split<;>simp[Option.filter]) (Good.new n h1 h2).sound];rfl
theorem BH.perm (h:BH σ R) (hp:R.Perm R'):BH σ R' :=
 ⟨h.good,fun k hk=>by rw[h.held k hk];unfold roots;rw[hp.countP_eq],fun p hm=>h.rep p (hp.mem_iff.2 hm),fun p hm=>h.nodup p (hp.mem_iff.2 hm),fun p hm=>h.len p (hp.mem_iff.2 hm)⟩
theorem BH.there (h:BH σ R) {p:Int×AQ} (hp:p∈R):p.1=0∨1≤Store.held σ p.1:=by
 by_cases e:p.1=0
 · exact .inl e
 right;rw[h.held _ e];have:=Lr hp;omega
theorem BH.db (h:BH σ R) {p:Int×AQ} (hp:p∈R):Db σ p.1 p.2:=⟨h.good,h.rep p hp,h.nodup p hp,h.len p hp,h.there hp⟩
theorem BH.step (h:BH σ ((root,L)::R)) (hs:Step σ σ' root r) (hr:Rep (sk σ') r 0 (tree 256 L')) (hn:(keysOf L').Nodup) (hl:∀q∈L',q.1.length=32):BH σ' ((r,L')::R):=by
 have hz:=h.good.fit.zero
 have hh:∀k,k≠0→Store.held σ' k=(roots ((r,L')::R) k:Nat):=fun k hk=>by
  rw[hs.held k hk,h.held k hk,DQ,DQ];simp only
  (repeat' split)<;>omega
 refine⟨hs.good,hh,fun p hp=>?_,fun p hp=>?_,fun p hp=>?_⟩
 · rcases List.mem_cons.1 hp with rfl|hp'
   · exact hr
   refine hs.An hz (h.rep p (List.mem_cons_of_mem _ hp')) ?_;by_cases e:p.1=0
   · exact .inl e
   right;refine JY ?_;rw[hh _ e];have:=Lr hp;omega
 · rcases List.mem_cons.1 hp with rfl|hp
   · exact hn
   exact h.nodup p (List.mem_cons_of_mem _ hp)
 rcases List.mem_cons.1 hp with rfl|hp
 · exact hl
 exact h.len p (List.mem_cons_of_mem _ hp)
theorem BH.less (h:BH σ ((0,L)::R)):BH σ R :=
 ⟨h.good,fun k hk=>by rw[h.held k hk,DQ,if_neg hk];rfl,fun p hp=>h.rep p (List.mem_cons_of_mem _ hp),fun p hp=>h.nodup p (List.mem_cons_of_mem _ hp),fun p hp=>h.len p (List.mem_cons_of_mem _ hp)⟩
theorem BH.zero (h:BH σ R):BH σ ((0,[])::R):=by
 refine⟨h.good,fun k hk=>by rw[h.held k hk,DQ,if_neg hk];rfl,fun p hp=>?_,fun p hp=>?_,fun p hp=>?_⟩
 · rcases List.mem_cons.1 hp with rfl|hp
   · exact .nil
   exact h.rep p hp
 · rcases List.mem_cons.1 hp with rfl|hp
   · exact List.nodup_nil
   exact h.nodup p hp
 rcases List.mem_cons.1 hp with rfl|hp
 · exact fun q hq=>by cases hq
 exact h.len p hp
theorem BH.hold (h:BH σ ((root,L)::R)) (h0:root≠0) (ht:Store.total σ<1073741824):(BC σ root).1=0∧BH (BC σ root).2 ((root,L)::(root,L)::R)∧Store.live (BC σ root).2=Store.live σ∧Store.total (BC σ root).2=Store.total σ+1∧(BC σ root).2.room=σ.room:=by
 obtain⟨h1,h2,h3,h4,h5,h6,h7⟩:=Ug (h.db (List.mem_cons_self ..)) h0 ht;have e:sk (BC σ root).2=sk σ:=funext h3;refine⟨h1,⟨h2.good,fun k hk=>?_,fun p hp=>?_,fun p hp=>?_,fun p hp=>?_⟩,h5,h6,h7⟩
 · rw[h4,DQ]
   by_cases e:k=root
   · subst e;rw[if_pos rfl,if_pos rfl,h.held _ hk];omega
   rw[if_neg e,if_neg e,h.held k hk];omega
 · rw[e]
   rcases List.mem_cons.1 hp with rfl|hp
   · exact h.rep _ (List.mem_cons_self ..)
   exact h.rep p hp
 · rcases List.mem_cons.1 hp with rfl|hp
   · exact h.nodup _ (List.mem_cons_self ..)
   exact h.nodup p hp
 rcases List.mem_cons.1 hp with rfl|hp
 · exact h.len _ (List.mem_cons_self ..)
 exact h.len p hp
theorem BH.drop (h:BH σ ((root,L)::R)) (h0:root≠0):(Ai σ root).2.1=0∧BH (Ai σ root).2.2 R∧Store.live (Ai σ root).2.2≤Store.live σ∧Store.total (Ai σ root).2.2≤Store.total σ∧(Ai σ root).2.2.room=σ.room:=by
 have hh:=(h.there (List.mem_cons_self ..)).resolve_left h0;obtain⟨g0,_,_,_,_,g5,g6,g7⟩:=Cv h.good.sound hh;exact⟨g0,(h.step (L' := []) (Hw h.good hh) .nil List.nodup_nil (fun q hq=>by cases hq)).less,g5,g6,g7⟩
theorem Tc (hn:(keysOf L).Nodup) (hl:∀q∈L,q.1.length=32) (hk:key.length=32):(keysOf (upd L key bs)).Nodup∧∀p∈upd L key bs,p.1.length=32:=by
 refine⟨List.nodup_cons.2 ⟨fun hm=>?_,hn.sublist (keys_filter L _)⟩,fun p hp=>?_⟩
 · obtain⟨p,hp,e⟩:=List.mem_map.1 hm
   have:=(List.mem_filter.1 hp).2;simp[e] at this
 rcases List.mem_cons.1 hp with e|hp
 · rw[e];exact hk
 exact hl p (List.mem_filter.1 hp).1
structure WroteR (σ σ':AD Nd) (root r:Int) (n m:Nat):Prop where
 step:Step σ σ' root r
 live:Store.live σ'≤Store.live σ+n
 total:Store.total σ'≤Store.total σ+m
 room:σ'.room=σ.room
theorem QV (h:Ow w0 w s σ G) (D:BH σ ((root,L)::R)) (hk:key.length=32) {vv:Value} (hb:Bytes w vv bs) (hv:bs ≠ []→∀k,vv.ownBlock=some k→k<w.heap.size) (hl:bs.length≤1024) (hroom:live σ+258≤σ.room) (htot:total σ+600<1073741824) :
 Calls Tryz.prog 109 #[.pointer (some ⟨s,0,none⟩),.int .i64 root,.agg (AM key),vv] w fun e w'=>∃r σ',e=.returned (.tuple #[.int .i64 r,.int .i64 0])∧Ow w0 w' s σ' G∧But G w w' ∧
  WroteR σ σ' root r 258 600∧BH σ' ((r,upd L key bs)::R)∧r≠0∧((key,bs)∈L→r=root∧σ'=σ):=by
 have D0:Db σ root L:=D.db (List.mem_cons_self ..);have hre:=Cg D0.hand;have hz:=D0.good.fit.zero;obtain⟨l,e1,ho⟩:=On.ex (k:=key) D0.rep;have hf:Cs σ 1=true:=by rw[Gr,D0.good.used];exact decide_eq_true hroom
 have hin:=TU (v:=bs) 256 (Nat.le_refl _) (AQ.Ok.any D0.nodup D0.len key) hk;rw[Nat.sub_self] at hin;obtain⟨hd1,hd2⟩:=Tc (bs:=bs) D0.nodup D0.len hk;by_cases hs:FH σ key bs e1=true
 · obtain⟨x,hx,h1,h2,h3⟩:=QK hs
   have hr0:root≠0:=fun e=>by
    subst e;obtain⟨_,e⟩:=ho.zero hz;rw[e,hz] at hx;cases hx
   have hins:=ho.SY hz D0.rep hx h1 h2;rw[h3] at hins;obtain⟨F,hAt⟩:=h.at;have hst:=Step.refl D0.good root;refine(TE hAt D0.good root key hk hb hl D0.hand hre hf ho hs).mono fun e w' ⟨he,ha⟩=>⟨root,σ,he,h.adds ha,Adds.but ha,⟨hst,Nat.le_add_right _ _,Nat.le_add_right _ _,rfl⟩,?_,hr0,fun _=>⟨rfl,rfl⟩⟩
   exact D.step hst (by rw[←hin,hins];exact D0.rep) hd1 hd2
 have hs':FH σ key bs e1=false:=by simpa using hs
 refine(Ve h D0.good root key hk hb hv hl D0.hand hre hf ho hs').mono fun e w' ⟨v,he,ho',hb'⟩=>⟨_,_,he,ho',hb',?_⟩
 have hc:=KP D0.good hk ho;have hM:=PutMid.made D0.good hk bs v hl D0.rep ho (by omega) htot;have hP:=Sa D0.good hk bs v hl D0.rep D0.held ho (by omega) htot;have hst:Step σ (Jm σ root key bs v l e1).2 root (Jm σ root key bs v l e1).1:=hM.step D0.good D0.held;refine⟨⟨hst,by have:=hP.live;omega,by have:=hP.total;omega,hP.room⟩,D.step hst (by rw[←hin];exact hP.rep) hd1 hd2,hP.ne,fun hm=>?_⟩;exfalso;obtain⟨x,hx,h1,h2,h3⟩:=On.Gy hz 256 (Nat.le_refl _) (AQ.Ok.any D0.nodup D0.len key) hm D0.rep ho;exact hs (TV hx h1 h2 h3)
end
structure Wk where
 todo:List Int
 cnt:Int→Nat
def Wk.start:Wk:=⟨[],fun _=>0⟩
def Wk.want (k:Wk) (h:Int):Wk:=if h=0 then k else ⟨if k.cnt h=0 then k.todo ++ [h] else k.todo,fun x=>k.cnt x+(if x=h then 1 else 0)⟩
inductive Fro (σ:AD Nd) (R:List Int):Int→Prop
 | root {h:Int}:h∈R→h≠0→Fro σ R h
 | left {h:Int}:Fro σ R h→(nd σ h).left≠0→Fro σ R (nd σ h).left
 | right {h:Int}:Fro σ R h→(nd σ h).right≠0→Fro σ R (nd σ h).right
structure Um (σ:AD Nd) (R:List Int) (i:Nat) (k:Wk):Prop where
 nodup:k.todo.Nodup
 mem:∀h,h∈k.todo↔0<k.cnt h
 cnt:∀h,h≠0→k.cnt h=R.count h+((k.todo.take i).map fun x=>refs (nd σ x) h).sum
 zero:k.cnt 0=0
 there:∀h∈k.todo,has σ h=true
 fro:∀h∈k.todo,Fro σ R h
section
variable {σ : AD Nd} {R : List Int} {i : Nat} {k : Wk}
structure XV (σ:AD Nd) (R:List Int) (k:Wk):Prop where
 nodup:k.todo.Nodup
 mem:∀h,h∈k.todo↔0<k.cnt h
 zero:k.cnt 0=0
 there:∀h∈k.todo,has σ h=true
 fro:∀h∈k.todo,Fro σ R h
end
end Go.Proofs.YtooijgcildbnlaaGreat.Store
namespace Go.Proofs.YtooijgcildbnlaaGreat
open Go.RowKit Go.Maps
namespace AD
end AD
abbrev ky (n:Int):Lit:=.int .i64 n
abbrev num (n:Int):DataW Value:=.lit (.int .i64 n)
def WQ (v:Value):Option (DataW Value×List MemPlace):=some (.held v,[])
@[reducible] def Xd (a b c:Int):Value:=.agg #[.int .i64 a,.int .i64 b,.int .i64 c]
def Wd (v:Value):Prop:=∃a b c,v=Xd a b c
structure Ye (σ:AD) (Dc Dt:DataW Value) (k:Nat):Prop where
 cnt:∀n:Int,Dc.atKey (ky n) (num 0)=num (σ.count n)
 has:∀n:Int,Maps.has Dc (ky n)=(σ.get? n).isSome
 size:Maps.size Dc=σ.used
 thing:∀(n:Int) s z,σ.get? n=some s→Dt.atKey (ky n) z=.held s.1
 few:∀(n:Int) s,σ.get? n=some s→s.2≤k
 acts:∀(n:Int) s,σ.get? n=some s→Wd s.1
end Go.Proofs.YtooijgcildbnlaaGreat
namespace Go.Proofs.YtooijgcildbnlaaGreat.Store
open Go.RowKit Go.Proofs.YtooijgcildbnlaaGreat.ShaW Go.Proofs.YtooijgcildbnlaaGreat.Path
open Go.Maps (Keyed keyOf_int_mk)
noncomputable abbrev Wa:Value→Option (DataW Value×List MemPlace):=plainElem Tryz.prog 3
structure Wc (w:World) (b n:Nat) (f:Int→Nat) (sz:Nat):Prop where
 ex:∃D,w.ownsMap Tryz.prog 3 Wa b n D∧Maps.size D=sz∧∀x:Int,D.atKey (ky x) (num 0)=num (f x)∧Maps.has D (ky x)=decide (0<f x)
def YD (f:Int→Nat) (x:Int):Int→Nat:=fun y=>f y+(if y=x then 1 else 0)
def QB (l:List Int):List Value:=l.map (Value.int .i64)
structure YZ (w0 w:World) (b5 b6 m n:Nat) (k:Wk):Prop where
 r5:w.heap[b5]?=some (.cells #[.map (some m)] 176 (0,0))
 r6:∃ao cap,w.heap[b6]?=some (.cells #[.slice ao k.todo.length cap] 39 (0,0))∧w.ownsRow w0.heap.size 3 1 (.slice ao k.todo.length cap) k.todo.length (QB k.todo)
 cnt:Wc w m n k.cnt k.todo.length
 adds:Ch (fun _=>False) w0 w
 m0:w0.heap.size≤m
 b60:w0.heap.size≤b6
end Go.Proofs.YtooijgcildbnlaaGreat.Store
namespace Go.Proofs.YtooijgcildbnlaaGreat.Store
open Go.RowKit Go.Proofs.YtooijgcildbnlaaGreat.ShaW Go.Proofs.YtooijgcildbnlaaGreat.Path
def KC (w:World) (ao:Option Addr) (l:List Int):Prop:=∀i x,l[i]?=some x→∃g off,ao=some ⟨g,off,none⟩∧w.cell? ⟨g,off+i,none⟩=some (.int .i64 x)
theorem KC.own {w:World} {base n:Nat} {ao:Option Addr} {cap:Nat} {l:List Int} (h:w.ownsRow base 3 1 (.slice ao n cap) n (QB l)):KC w ao l∧l.length=n:=by
 have hl:l.length=n:=by have:=h.1;simp[QB] at this;omega
 refine⟨fun i x hx=>?_,hl⟩;have hi:=(List.getElem?_eq_some_iff.1 hx).1;obtain⟨g,cap',cur,he,hg,h1,h2,h3,h4⟩:=Cr h (by omega);cases he;refine⟨g,0,rfl,?_⟩;rw[Nat.zero_add];refine AH hg (Dj h4 ?_);unfold QB;rw[List.getElem?_map,hx];rfl
def XI (σ:AD Nd):List Int→Int
 | []=>0
 | h::R=>if BM σ h≠0 then BM σ h else XI σ R
def chk (σ:AD Nd) (R:List Int):Int:=if 64<R.length then 4 else XI σ R

def VZ (σ:AD Nd) (f:Int→Nat) (l:List Nat):List (Int×Int×Int):=l.filterMap fun h:Nat=>if ((σ.count (h:Int):Nat):Int)=(f (h:Int):Nat) then none else some ((h:Int),((f (h:Int):Nat):Int),((σ.count (h:Int):Nat):Int))
def YH (σ:AD Nd) (f:Int→Nat):List (Int×Int×Int):=VZ σ f (UH σ)
def fdL (l:List (Int×Int×Int)):List Value:=l.flatMap fun x => [.int .i64 x.1,.int .i64 x.2.1,.int .i64 x.2.2]

end Go.Proofs.YtooijgcildbnlaaGreat.Store
namespace Go.Proofs.YtooijgcildbnlaaGreat.Store
open Go.RowKit Go.Sort Go.Proofs.YtooijgcildbnlaaGreat.ShaW Go.Proofs.YtooijgcildbnlaaGreat.Path
def YB (f:Int→Nat) (l:List Nat):List Int:=(l.filter fun h:Nat=>decide (f (h:Int)=0)).map fun h:Nat=>(h:Int)

def leI (x y:Int):Bool:=decide (x≤y)
def YK (D0:DataW Value) (left:Lit→Bool) (ss:List Int):Prop:=ss.Nodup∧∀x,x∈ss↔(Maps.has D0 (ky x)=true∧left (ky x)=false)

def YF (a:Option Addr) (cap i:Nat):Option Addr:=if cap=i then a else a.map (·.add (i*1))
theorem QD:∃i,Tryz.prog.info? 3=some i∧i.zero=some (.int .i64 0)∧i.size=1∧i.bytes=8:=by
 obtain⟨i,h1,h2⟩:=Option.map_eq_some_iff.1 (by kernel_rfl:(Tryz.prog.info? 3).map (fun i=>(i.zero,i.size,i.bytes))=some (some (.int .i64 0),1,8));simp only[Prod.mk.injEq] at h2;exact⟨i,h1,h2.1,h2.2.1,h2.2.2⟩
theorem J7 {w w':World} {e b sz n:Nat} {v v':Value} {xs:List Value} (own:w'.ownsRow 0 e sz v' n xs) (hlow:∀k,v.ownBlock=some k→b≤k) (hb:b≤w.heap.size) (loc:v'.ownBlock=v.ownBlock∨∀k,v'.ownBlock=some k→w.heap.size≤k):w'.ownsRow b e sz v' n xs :=
 own.base (fun k hk=>by
  rcases loc with e|e
  · rw[e] at hk;exact hlow k hk
  have:=e k hk;omega)
end Go.Proofs.YtooijgcildbnlaaGreat.Store
namespace Go.Proofs.YtooijgcildbnlaaGreat.Store
open Go.RowKit Go.Sort Go.Proofs.YtooijgcildbnlaaGreat.ShaW Go.Proofs.YtooijgcildbnlaaGreat.Path Go.Proofs.YtooijgcildbnlaaGreat.Tag
theorem SN:∃i,Tryz.prog.info? 5=some i∧i.zero=some (.int .u8 0)∧i.size=1∧i.bytes=1:=by
 obtain⟨i,h1,h2⟩:=Option.map_eq_some_iff.1 (by kernel_rfl:(Tryz.prog.info? 5).map (fun i=>(i.zero,i.size,i.bytes))=some (some (.int .u8 0),1,1));simp only[Prod.mk.injEq] at h2;exact⟨i,h1,h2.1,h2.2.1,h2.2.2⟩
theorem JK {w:World} {ops:Array Oper} {rest:List Oper} {o:Oper} {a:Act} {Q:Exit→Act→World→Prop} (hgd:o.guard=none) (s x:Operand)
 (ho:o.op=.call { callee:=.builtin .append,args:=#[s,x],argTypes:=#[73,73] }) (v:Value) (n:Nat) (xs:List UInt8) (hs:a.eval s=v) (hown:w.ownsRow 0 5 1 v n (xs.map bv))
 (xv:Value) (p:List UInt8) (hx:a.eval x=xv) (hI:Bytes w xv p) (hb:n+p.length≤1000000000000)
 (h:∀v' w',w'.ownsRow 0 5 1 v' (n+p.length) ((xs++p).map bv)→w.grownBy w' v.ownBlock→(v'.ownBlock=v.ownBlock∨∀k,v'.ownBlock=some k→w.heap.size≤k)→wpList Tryz.prog ops Q rest (a.put o.dst v') w'):wpList Tryz.prog ops Q (o::rest) a w:=by
 obtain⟨i0,p1,p2,p3,p4⟩:=SN;obtain⟨ao,cap,rfl,_,_,hat⟩:=hI;rcases Nat.eq_zero_or_pos p.length with h0|h0
 · obtain rfl:p = []:=List.eq_nil_of_length_eq_zero h0
   obtain⟨base,cap',e,hle⟩:∃base cap,v=.slice base n cap∧n≤cap:=by
    rcases hown.2 with⟨rfl,h1⟩|⟨g,cap,cur,rfl,_,_,h3,_⟩
    · exact⟨none,0,by rw[h1],by omega⟩
    exact⟨_,cap,rfl,h3⟩
   have hsrc:Src Tryz.prog i0.size 73 (.slice ao 0 cap) 0 [] w:=by
    cases ao with
    | none=>exact Src.ofNil w Tryz.underlying73 cap
    | some ad=>exact Src.ofSlice w Tryz.underlying73 ad 0 cap [] (by simp) (fun j u hu=>by simp at hu) (fun u hu=>by cases hu)
   refine wpList_plain hgd fun _ hK=>?_
   have hrun:=run_append_nothing (P:=Tryz.prog) w 73 73 o.type 5 i0 Tryz.underlying73 p1 base n cap' hle _ hsrc;subst e;unfold Oper.wp;have hx':a.eval x=.slice ao 0 cap:=hx;simp[execOp,ho,resolve,invoke,builtin,hs,hx',hrun,Result.andThen];exact hK _ _ (h _ w (by rw[List.append_nil];exact hown) ⟨rfl,rfl,rfl,Nat.le_refl _,fun _ _ _=>rfl⟩ (.inl rfl))
 obtain⟨g,off,rfl,_⟩:=hat 0 p[0] (List.getElem?_eq_getElem h0);refine Ap hgd s x 73 ho 5 i0 (.int .u8 0) 1 1 Tryz.underlying73 p1 p2 p3 p4 rfl (by decide) v n (xs.map bv) hs hown ⟨g,off,none⟩ p.length cap (p.map bv) hx (by simp) (fun j u hu=>?_) (fun u hu=>?_) (by unfold maxLen;omega) (by omega) ?_
 · rw[List.getElem?_map] at hu
   obtain⟨y,hy,rfl⟩:=Option.map_eq_some_iff.1 hu;obtain⟨g',off',e,hc⟩:=hat j y hy;cases e;rw[add_plain];exact hc
 · obtain⟨y,_,rfl⟩:=List.mem_map.1 hu
   rfl
 intro v' w' q1 q2 q3;exact h v' w' (by rw[List.map_append];exact q1) q2 q3
theorem Qy {w:World} {base:Nat} {v:Value} {bs:List UInt8} (h:w.ownsRow base 5 1 v bs.length (bs.map bv)) (hl:bs.length≤1000000000000):Bytes w v bs∧∀k,v.ownBlock=some k→base≤k∧k<w.heap.size:=by
 refine⟨?_,fun k hk=>h.lt k hk⟩;rcases h.2 with⟨rfl,h0⟩|⟨g,cap,cur,rfl,h1,h2,h3,h4,h5,h6⟩
 · obtain rfl:bs = []:=List.eq_nil_of_length_eq_zero h0
   exact Bytes.nil w
 refine⟨_,cap,rfl,h3,h4,fun j x hx=>⟨g,0,rfl,?_⟩⟩;rw[Nat.zero_add];exact AH h2 (Dj h6 (by rw[List.getElem?_map,hx];rfl))
section
variable {w : World}
theorem RW {ps:List (List UInt8)} {k:Nat} {p:List UInt8} (h:ps[k]?=some p):(ps.take (k+1)).flatten=(ps.take k).flatten++p:=by
 rw[List.take_add_one,h];simp
def Jq (w:World) (bs:List UInt8) (e:Ending) (w':World):Prop:=∃q,e=.returned q∧w'.ownsRow w.heap.size 5 1 q bs.length (bs.map bv)∧Adds w w'
theorem Tu {v:Value} {ps:List (List UInt8)} (hp:FV w v ps) (hlen:ps.flatten.length≤1000000) (hn:ps.length≤1000) :
 Calls Tryz.prog 343 #[v] w (Jq w ps.flatten):=by
 obtain⟨ao,cap,rfl,hat⟩:=hp;obtain⟨n,hnn⟩:∃n,n=ps.length:=⟨_,rfl⟩
 have HP:=(hIq hat (aIq hnn (aIq hlen hn)))
 rw[←hnn];clear hat hnn hlen hn;go_enter Tryz.func343,Tryz.ntmps343;go_wp2_with fail;go_loopg [3,5,8] n (fun g s3 s5 s8 wr=>∃(k nl:Nat) (xs:List UInt8),s8=.int .i64 (k:Nat)∧k+g=n∧xs=(ps.take k).flatten∧nl=xs.length∧wr.ownsRow w.heap.size 5 1 s3 nl (xs.map bv)∧Adds w wr)
 case atStart=>exact⟨0,0,[],rfl,by omega,rfl,rfl,World.ownsRow_nil ..,Ch.refl _ _⟩
 obtain⟨k,nl,xs,rfl,hk,hxs,hnl,hown,hA⟩:=hrel;obtain⟨qo,qc,rfl⟩:=As hown;have HS:=(hIq hown hA)
 have HNL:=(hIq hxs hnl)
 have HK:=Lib.hid hk;by_cases hkn:k<n
 · have h1:decide ((k:Int)<(n:Int))=true:=decide_eq_true (by omega)
   have h2:(k:Int)<(n:Int):=by omega
   obtain⟨p,hpk⟩:∃p,ps[k]?=some p:=⟨_,List.getElem?_eq_getElem (by have:=HP.out.2.1;omega)⟩
   obtain⟨g0,off,x,rfl,hc,hb,hbk⟩:=HP.out.1 k p hpk;obtain⟨xo,xc,rfl,_,_⟩:=hb.form;have hcw:=HS.out.2.cell hc id;have hle:=Gt hpk;have hft:=RW hpk;have hwk:wrap64 ((k:Int)+1)=(k:Int)+1:=by have:=HP.out.2;unfold wrap64;omega
   have HX:=(hIq (hb.An HS.out.2 (fun _ _ h=>h)) (aIq hle hft))
   obtain⟨pl,hpl⟩:∃pl,pl=p.length:=⟨_,rfl⟩
   rw[←hpl] at hcw;have HPL:=Lib.hid hpl;clear hk hown hA hpk hc hb hbk hle hft hxs hnl hpl
   go_wp2_with (first
    | fail
    | (at_builtin;refine JK rfl _ _ rfl (.slice qo nl qc) nl xs rfl (HS.out.1.base (fun _ _=>Nat.zero_le _)) (.slice xo pl xc) p rfl (by rw[HPL.out];exact HX.out.1) (by have:=HX.out.2.1;have:=HP.out.2.2.1;have:=HNL.out.2;rw[HNL.out.1] at this;omega) ?_;intro v' w4 own' grow' loc';have a4:Adds w w4:=HS.out.2.grown grow' (fun k hk=>.inr (HS.out.1.lt k hk).1);have own2:=J7 (b:=w.heap.size) own' (fun k hk=>(HS.out.1.lt k hk).1) HS.out.2.size loc';have H4:=(hIq own2 a4);clear own' grow' loc' a4 own2))
   go_roundg (n-(k+1))
   case measure=>have:=HK.out;omega
   exact⟨k+1,nl+p.length,xs++p,by first|(simp;done)|(simp[hwk];done),by have:=HK.out;omega,by rw[HX.out.2.2,HNL.out.1],by rw[List.length_append,HNL.out.2],H4.out.1,H4.out.2⟩
 obtain rfl:k=n:=by omega
 have h1:decide ((k:Int)<(k:Int))=false:=decide_eq_false (by omega);have h2:¬(k:Int)<(k:Int):=by omega
 have hta:xs=ps.flatten:=by rw[hxs,List.take_of_length_le (by have:=HP.out.2.1;omega)]
 have HTA:=Lib.hid hta;clear hk hown hA hta hxs hnl;go_wp2;go_ret;exact⟨_,rfl,by rw[←HTA.out, ←HNL.out.2];exact HS.out.1,HS.out.2⟩
end
theorem Q9:∃i,Tryz.prog.info? 73=some i∧i.zero=some (.slice none 0 0)∧i.size=1∧i.bytes=24:=by
 obtain⟨i,h1,h2⟩:=Option.map_eq_some_iff.1 (by kernel_rfl:(Tryz.prog.info? 73).map (fun i=>(i.zero,i.size,i.bytes))=some (some (.slice none 0 0),1,24));simp only[Prod.mk.injEq] at h2;exact⟨i,h1,h2.1,h2.2.1,h2.2.2⟩
def VX (w:World) (vs:List Value) (ps:List (List UInt8)):Prop:=vs.length=ps.length∧∀(i:Nat) v p,vs[i]?=some v→ps[i]?=some p→Bytes w v p∧(p ≠ []→∀k,v.ownBlock=some k→k<w.heap.size)
theorem Hb {w:World} {ops:Array Oper} {rest:List Oper} {o:Oper} {a:Act} {Q:Exit→Act→World→Prop} (hgd:o.guard=none) (s x:Operand)
 (ho:o.op=.call { callee:=.builtin .append,args:=#[s,x],argTypes:=#[51,51] }) (v:Value) (n:Nat) (xs:List Value) (hs:a.eval s=v) (hown:w.ownsRow 0 73 1 v n xs)
 (ao:Option Addr) (m c:Nat) (l:List Value) (hx:a.eval x=.slice ao m c) (hm:l.length=m) (hI:∀i u,l[i]?=some u→∃g off,ao=some ⟨g,off,none⟩∧w.cell? ⟨g,off+i,none⟩=some u∧u.oneCell'=true) (hb:n+m≤1000000)
 (h:∀v' w',w'.ownsRow 0 73 1 v' (n+m) (xs++l)→w.grownBy w' v.ownBlock→(v'.ownBlock=v.ownBlock∨∀k,v'.ownBlock=some k→w.heap.size≤k)→wpList Tryz.prog ops Q rest (a.put o.dst v') w'):wpList Tryz.prog ops Q (o::rest) a w:=by
 obtain⟨i0,p1,p2,p3,p4⟩:=Q9;rcases Nat.eq_zero_or_pos m with h0|h0
 · have hnil:l = []:=List.eq_nil_of_length_eq_zero (by omega)
   subst hnil;subst h0
   obtain⟨base,cap,e,hle⟩:∃base cap,v=.slice base n cap∧n≤cap:=by
    rcases hown.2 with⟨rfl,h1⟩|⟨g,cap,cur,rfl,_,_,h3,_⟩
    · exact⟨none,0,by rw[h1],by omega⟩
    exact⟨_,cap,rfl,h3⟩
   have hsrc:Src Tryz.prog i0.size 51 (.slice ao 0 c) 0 [] w:=by
    cases ao with
    | none=>exact Src.ofNil w Tryz.underlying51 c
    | some ad=>exact Src.ofSlice w Tryz.underlying51 ad 0 c [] (by simp) (fun j u hu=>by simp at hu) (fun u hu=>by cases hu)
   refine wpList_plain hgd fun _ hK=>?_
   have hrun:=run_append_nothing (P:=Tryz.prog) w 51 51 o.type 73 i0 Tryz.underlying51 p1 base n cap hle _ hsrc;subst e;unfold Oper.wp;simp[execOp,ho,resolve,invoke,builtin,hs,hx,hrun,Result.andThen];exact hK _ _ (h _ w (by rw[List.append_nil];exact hown) ⟨rfl,rfl,rfl,Nat.le_refl _,fun _ _ _=>rfl⟩ (.inl rfl))
 obtain⟨g,off,rfl,_⟩:=hI 0 l[0] (List.getElem?_eq_getElem (by omega));refine Ap hgd s x 51 ho 73 i0 (.slice none 0 0) 1 24 Tryz.underlying51 p1 p2 p3 p4 rfl (by decide) v n xs hs hown ⟨g,off,none⟩ m c l hx (by simp[hm]) (fun j u hu=>?_) (fun u hu=>?_) (by unfold maxLen;omega) (by omega) h
 · obtain⟨g',off',e,hc,_⟩:=hI j u hu
   cases e;rw[add_plain];exact hc
 obtain⟨i,hi⟩:=List.getElem?_of_mem hu;obtain⟨_,_,_,_,h1⟩:=hI i u hi;exact h1
theorem Oa {w:World} {v:Value} {ps:List (List UInt8)} (h:FV w v ps):∃ao cap vs,v=.slice ao ps.length cap∧VX w vs ps∧∀i u,vs[i]?=some u→∃g off,ao=some ⟨g,off,none⟩∧w.cell? ⟨g,off+i,none⟩=some u∧u.oneCell'=true:=by
 obtain⟨ao,cap,rfl,hat⟩:=h
 have one:∀i,i<ps.length→∃u,∃p,ps[i]?=some p∧(∃g off,ao=some ⟨g,off,none⟩∧w.cell? ⟨g,off+i,none⟩=some u)∧Bytes w u p∧(p ≠ []→∀k,u.ownBlock=some k→k<w.heap.size):=fun i hi=>by
  obtain⟨g,off,x,h1,h2,h3,h4⟩:=hat i ps[i] (List.getElem?_eq_getElem hi);exact⟨x,_,List.getElem?_eq_getElem hi,⟨g,off,h1,h2⟩,h3,h4⟩
 obtain⟨B,hB⟩:∃B:Nat→Value,∀i,i<ps.length→∃p,ps[i]?=some p∧(∃g off,ao=some ⟨g,off,none⟩∧w.cell? ⟨g,off+i,none⟩=some (B i))∧Bytes w (B i) p∧(p ≠ []→∀k,(B i).ownBlock=some k→k<w.heap.size):=by
  refine⟨fun i=>if hi:i<ps.length then Classical.choose (one i hi) else undef,fun i hi=>?_⟩;simp only[dif_pos hi];exact Classical.choose_spec (one i hi)
 refine⟨ao,cap,(List.range ps.length).map B,rfl,⟨by simp,fun i u p hu hp=>?_⟩,fun i u hu=>?_⟩
 · have hi:=(List.getElem?_eq_some_iff.1 hp).1
   obtain⟨p',hp',_,h3,h4⟩:=hB i hi;rw[hp] at hp';cases hp';obtain rfl:B i=u:=by simpa[hi] using hu
   exact⟨h3,h4⟩
 have hi:i<ps.length:=by have:=(List.getElem?_eq_some_iff.1 hu).1;simpa using this
 obtain⟨p',hp',⟨g,off,h1,h2⟩,h3,_⟩:=hB i hi;obtain rfl:B i=u:=by simpa[hi] using hu
 obtain⟨_,_,e,_⟩:=h3.form;exact⟨g,off,h1,h2,by rw[e];rfl⟩
section
variable {w : World}
theorem Pd (t:UInt8) {v:Value} {ps:List (List UInt8)} (hp:FV w v ps) (hlen:ps.flatten.length≤900000) (hn:ps.length≤100) :
 Calls Tryz.prog 323 #[bv t,v] w (Jq w (t::ps.flatten)):=by
 obtain⟨ao,cap,vs,rfl,hv,hat⟩:=Oa hp;obtain⟨n,hnn⟩:∃n,n=ps.length:=⟨_,rfl⟩
 have HP:=(hIq hat (aIq hnn (aIq hlen (aIq hn hv))))
 rw[←hnn];clear hat hnn hlen hn hv hp;obtain⟨tc,htc⟩:∃tc:Int,tc=(t.toNat:Nat):=⟨_,rfl⟩
 have hT:Value.int .u8 tc=bv t:=by rw[htc]
 rw[←hT];have HT:=Lib.hid hT;obtain⟨w2,hw2⟩:∃w2,w2=(w.alloc (.cells #[.int .u8 tc] 5)).alloc (.cells #[.slice (some ⟨w.heap.size,0,none⟩) 1 1] 73):=⟨_,rfl⟩
 have a2:Adds w w2:=by rw[hw2];exact((Ch.refl _ _).alloc _).alloc _
 have hb2:Bytes w2 (.slice (some ⟨w.heap.size,0,none⟩) 1 1) [t]:=⟨_,1,rfl,Nat.le_refl _,by unfold maxLen;decide,fun j x hx=>⟨w.heap.size,0,rfl,by
  have hj:j=0∧x=t:=by
   have:=(List.getElem?_eq_some_iff.1 hx).1;simp at this;subst this;simpa using hx.symm
  obtain⟨rfl,rfl⟩:=hj;rw[hw2, ←hT];exact AH (AJ (heap_alloc_new _ _) _) rfl⟩⟩
 have ho2:w2.ownsRow 0 73 1 (.slice (some ⟨w.heap.size+1,0,none⟩) 1 1) 1 [.slice (some ⟨w.heap.size,0,none⟩) 1 1]:=by
  rw[hw2];refine⟨by simp,.inr ⟨w.heap.size+1,1, #[.slice (some ⟨w.heap.size,0,none⟩) 1 1],rfl,Nat.zero_le _,?_,Nat.le_refl _,by unfold maxLen;decide,rfl,by simp⟩⟩;have:=heap_alloc_new (w.alloc (.cells #[.int .u8 tc] 5)) (.cells #[.slice (some ⟨w.heap.size,0,none⟩) 1 1] 73);simpa using this
 have hs2:w2.heap.size=w.heap.size+2:=by rw[hw2];simp
 have H2:=(hIq a2 (aIq hb2 (aIq ho2 (aIq hw2 hs2))))
 clear a2 hb2 ho2 hw2 hT hs2 htc;go_enter Tryz.func323,Tryz.ntmps323
 go_wp2_with (first
  | fail
  | (at_builtin;rw[←H2.out.2.2.2.1];refine Hb rfl _ _ rfl (.slice (some ⟨w.heap.size+1,0,none⟩) 1 1) 1 [.slice (some ⟨w.heap.size,0,none⟩) 1 1] rfl H2.out.2.2.1 ao n cap vs rfl (by rw[HP.out.2.1];exact HP.out.2.2.2.2.1) (fun i u hu=>by obtain⟨g,off,h1,h2,h3⟩:=HP.out.1 i u hu;exact⟨g,off,h1,H2.out.1.cell h2 id,h3⟩) (by have:=HP.out.2.1;have:=HP.out.2.2.2.1;omega) ?_;intro v' w4 own' grow' loc'))
 have hch:Ch (fun k=>k=w.heap.size+1) w2 w4:=(Ch.refl _ _).grown grow' (fun k hk=>.inl (by cases hk;rfl));have hA4:Adds w w4:=H2.out.1.trans hch (fun k hk=>.inr (by rw[hk];exact Nat.le_succ _))
 have hpp:FV w4 v' ([t]::ps):=by
  obtain⟨gg,cp,cur,rfl,hg,q1,q2,q3,q4⟩:=Cr own' (by omega);refine⟨_,cp,by rw[List.length_cons, ←HP.out.2.1,Nat.add_comm],fun i p hp=>?_⟩;cases i with
  | zero =>
   obtain rfl : [t]=p:=by simpa using hp
   have hk0:∀k,(Value.slice (some ⟨w.heap.size,0,none⟩) 1 1).ownBlock=some k→k=w.heap.size:=fun k hk=>by injection hk with hk;exact hk.symm
   refine⟨gg,0,_,rfl,AH hg (Dj q4 (i:=0) rfl),H2.out.2.1.An hch (fun k hk e=>absurd (show k=w.heap.size+1 from e) (by have:=hk0 k hk;omega)),fun _ k hk=>?_⟩;have h1:=hk0 k hk;have h2:=hch.size;have h3:=H2.out.2.2.2.2;omega
  | succ i =>
   have hp':ps[i]?=some p:=by simpa using hp
   have hi:=(List.getElem?_eq_some_iff.1 hp').1;obtain⟨u,hu⟩:∃u,vs[i]?=some u:=⟨_,List.getElem?_eq_getElem (by rw[HP.out.2.2.2.2.1];exact hi)⟩
   obtain⟨hb,hbk⟩:=HP.out.2.2.2.2.2 i u p hu hp';refine⟨gg,0,u,rfl,AH hg (Dj q4 (i:=0+(i+1)) (by rw[Nat.zero_add];simpa using hu)),(hb.An H2.out.1 (fun _ _ h=>h)).Jh hch (fun h0 k hk e=>absurd (show k=w.heap.size+1 from e) (by have:=hbk h0 k hk;omega)),fun h0 k hk=>Nat.lt_of_lt_of_le (hbk h0 k hk) hA4.size⟩
 have hj:=Tu hpp (by simp;have:=HP.out.2.2.1;simp at this;omega) (by simp;have:=HP.out.2.2.2.1;omega);have HJ:=(hIq hj hA4)
 clear own' grow' loc' hch hA4 hpp hj;refine HJ.out.1.mono ?_;rintro e w5 ⟨q,rfl,hq,a5⟩;have H5:=(hIq hq a5)
 clear hq a5;go_wp2;go_ret;exact⟨q,rfl,H5.out.1.base (fun k hk=>Nat.le_trans HJ.out.2.size (H5.out.1.lt k hk).1),HJ.out.2.trans H5.out.2 (fun _=>fEq)⟩
end
end Go.Proofs.YtooijgcildbnlaaGreat.Store
