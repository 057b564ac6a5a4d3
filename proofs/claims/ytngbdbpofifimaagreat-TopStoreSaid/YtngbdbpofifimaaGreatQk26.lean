/- Laws of the layers below. -/
import Derived.Test.YtngbdbpofifimaaGreatQk25
import Derived.Sort.OwnSortedInts
set_option maxHeartbeats 3200000
set_option maxRecDepth 100000
set_option linter.unusedVariables false
namespace Go.Proofs.YtngbdbpofifimaaGreat.Store
open Go.RowKit Go.Proofs.YtngbdbpofifimaaGreat.ShaW Go.Proofs.YtngbdbpofifimaaGreat.Path
structure Wk where
 todo:List Int
 cnt:Int→Nat
def Wk.start:Wk:=⟨[],fun _=>0⟩
def Wk.want (k:Wk) (h:Int):Wk:=if h=0 then k else ⟨if k.cnt h=0 then k.todo ++ [h] else k.todo,fun x=>k.cnt x+(if x=h then 1 else 0)⟩
inductive Fro (σ:AA Nd) (R:List Int):Int→Prop
 | root {h:Int}:h∈R→h≠0→Fro σ R h
 | left {h:Int}:Fro σ R h→(nd σ h).left≠0→Fro σ R (nd σ h).left
 | right {h:Int}:Fro σ R h→(nd σ h).right≠0→Fro σ R (nd σ h).right
theorem Fro.mono {σ:AA Nd} {R R':List Int} (hR:∀h∈R,h∈R') {h:Int} (hf:Fro σ R h):Fro σ R' h:=by
 induction hf with
 | root h1 h2=>exact .root (hR _ h1) h2
 | left _ h2 ih=>exact .left ih h2
 | right _ h2 ih=>exact .right ih h2
structure Wanting (σ:AA Nd) (R:List Int) (i:Nat) (k:Wk):Prop where
 nodup:k.todo.Nodup
 mem:∀h,h∈k.todo↔0<k.cnt h
 cnt:∀h,h≠0→k.cnt h=R.count h+((k.todo.take i).map fun x=>refs (nd σ x) h).sum
 zero:k.cnt 0=0
 there:∀h∈k.todo,has σ h=true
 fro:∀h∈k.todo,Fro σ R h
section
variable {σ : AA Nd} {R : List Int} {i : Nat} {k : Wk}
theorem Wanting.start (σ:AA Nd):Wanting σ [] 0 Wk.start :=
 ⟨List.nodup_nil,fun h=>by simp[Wk.start],fun h _=>by simp[Wk.start],rfl,fun h hh=>(by cases hh),fun h hh=>(by cases hh)⟩
theorem Wk.FO (k:Wk):k.want 0=k:=by unfold Wk.want;rw[if_pos rfl]
theorem Wk.Gu (k:Wk) {h:Int} (h0:h≠0):k.want h=⟨if k.cnt h=0 then k.todo ++ [h] else k.todo,fun x=>k.cnt x+(if x=h then 1 else 0)⟩:=by unfold Wk.want;rw[if_neg h0]
theorem Wk.Iv (k:Wk) (h:Int) {x:Int} (hx:x≠0):(k.want h).cnt x=k.cnt x+(if x=h then 1 else 0):=by
 by_cases h0:h=0
 · subst h0;rw[Wk.FO,if_neg hx];rfl
 rw[Wk.Gu k h0]
theorem Wk.MS (k:Wk) (h:Int) (hz:k.cnt 0=0):(k.want h).cnt 0=0:=by
 by_cases h0:h=0
 · subst h0;rw[Wk.FO,hz]
 rw[Wk.Gu k h0];simp[hz,Ne.symm h0]
theorem Wk.G5 (k:Wk) (h:Int):∃l,(k.want h).todo=k.todo++l∧(l = []∨(l = [h]∧h≠0∧k.cnt h=0)):=by
 by_cases h0:h=0
 · subst h0;exact⟨[],by rw[Wk.FO];simp,.inl rfl⟩
 rw[Wk.Gu k h0];by_cases hc:k.cnt h=0
 · exact⟨[h],by simp[hc],.inr ⟨rfl,h0,hc⟩⟩
 exact⟨[],by simp[hc],.inl rfl⟩
structure GM (σ:AA Nd) (R:List Int) (k:Wk):Prop where
 nodup:k.todo.Nodup
 mem:∀h,h∈k.todo↔0<k.cnt h
 zero:k.cnt 0=0
 there:∀h∈k.todo,has σ h=true
 fro:∀h∈k.todo,Fro σ R h
theorem Wanting.ed (h:Wanting σ R i k):GM σ R k:=⟨h.nodup,h.mem,h.zero,h.there,h.fro⟩
theorem GM.want (H:GM σ R k) {h:Int} (hh:h=0∨has σ h=true) (hf:h≠0→Fro σ R h):GM σ R (k.want h):=by
 by_cases h0:h=0
 · subst h0;rw[Wk.FO];exact H
 have hh':=hh.resolve_left h0;have hz:=Wk.MS k h H.zero;rw[Wk.Gu k h0] at hz ⊢;by_cases hc:k.cnt h=0
 · simp only[hc,if_true] at hz ⊢
   have hn:h∉k.todo:=fun hm=>by have:=(H.mem h).1 hm;omega
   refine⟨?_,fun x=>?_,hz,fun x hx=>?_,fun x hx=>?_⟩
   · rw[List.nodup_append]
     exact⟨H.nodup,by simp,fun a ha b hb e=>by rw[List.mem_singleton] at hb;exact hn (hb▸e▸ha)⟩
   · simp only[List.mem_append,List.mem_singleton]
     by_cases e:x=h
     · simp[e]
     rw[if_neg e,Nat.add_zero, ←H.mem x];simp[e]
   · rcases List.mem_append.1 hx with hx|hx
     · exact H.there x hx
     rw[List.mem_singleton] at hx;rw[hx];exact hh'
   rcases List.mem_append.1 hx with hx|hx
   · exact H.fro x hx
   rw[List.mem_singleton] at hx;rw[hx];exact hf h0
 simp only[hc,if_false] at hz ⊢;refine⟨H.nodup,fun x=>?_,hz,H.there,H.fro⟩;by_cases e:x=h
 · subst e
   show x∈k.todo↔0<k.cnt x+(if x=x then 1 else 0)
   rw[H.mem x,if_pos rfl];omega
 show x∈k.todo↔0<k.cnt x+(if x=h then 1 else 0)
 rw[if_neg e,Nat.add_zero, ←H.mem x]
theorem Wanting.mono (H:Wanting σ R 0 k) {h:Int} (hh:h=0∨has σ h=true):Wanting σ (R ++ [h]) 0 (k.want h):=by
 have H':GM σ (R ++ [h]) k:=⟨H.nodup,H.mem,H.zero,H.there,fun x hx=>(H.fro x hx).mono (fun y hy=>List.mem_append_left _ hy)⟩
 have H2:=H'.want hh (fun h0=>.root (List.mem_append_right _ (List.mem_singleton.2 rfl)) h0);refine⟨H2.nodup,H2.mem,fun x hx=>?_,H2.zero,H2.there,H2.fro⟩;rw[Wk.Iv k h hx,H.cnt x hx,List.count_append]
 have:List.count x [h]=if x=h then 1 else 0:=by
  by_cases e:x=h
  · subst e;simp
  rw[if_neg e];simp[Ne.symm e]
 rw[this];simp
theorem Wanting.side (H:Wanting σ R i k) {x:Int} (hx:k.todo[i]?=some x) (hl:(nd σ x).left=0∨has σ (nd σ x).left=true) (hr:(nd σ x).right=0∨has σ (nd σ x).right=true) :
 Wanting σ R (i+1) ((k.want (nd σ x).left).want (nd σ x).right):=by
 have hm:x∈k.todo:=List.mem_of_getElem? hx;have hf:=H.fro x hm;have H2:=(H.ed.want hl (fun h0=>.left hf h0)).want hr (fun h0=>.right hf h0);refine⟨H2.nodup,H2.mem,fun h h0=>?_,H2.zero,H2.there,H2.fro⟩;obtain⟨l1,e1,_⟩:=Wk.G5 k (nd σ x).left;obtain⟨l2,e2,_⟩:=Wk.G5 (k.want (nd σ x).left) (nd σ x).right;have hlt:=(List.getElem?_eq_some_iff.1 hx).1;rw[Wk.Iv _ _ h0,Wk.Iv _ _ h0,H.cnt h h0,e2,e1,List.append_assoc,List.take_append_of_le_length (by omega),List.take_add_one,hx,List.map_append,List.sum_append];have:(List.map (fun y=>refs (nd σ y) h) (some x).toList).sum=refs (nd σ x) h:=by simp
 rw[this];unfold refs;have c1:(if h=(nd σ x).left then 1 else 0)=(if (nd σ x).left=h then 1 else (0:Nat)):=by by_cases e:h=(nd σ x).left<;>simp[e,eq_comm]
 have c2:(if h=(nd σ x).right then 1 else 0)=(if (nd σ x).right=h then 1 else (0:Nat)):=by by_cases e:h=(nd σ x).right<;>simp[e,eq_comm]
 rw[c1,c2];omega
theorem VX (n:Nd) (h:Int):refs n h≤2:=by unfold refs;split<;>split<;>omega
theorem O9 (l:List Int) (h:Int):(l.map fun x=>refs (nd σ x) h).sum≤2*l.length:=by
 induction l with
 | nil=>simp
 | cons a l ih=>simp only[List.map_cons,List.sum_cons,List.length_cons];have:=VX (nd σ a) h;omega
theorem Wanting.bound (H:Wanting σ R i k) (h:Int):k.cnt h≤R.length+2*i:=by
 by_cases h0:h=0
 · rw[h0,H.zero];omega
 rw[H.cnt h h0];have h1:=O9 (σ:=σ) (k.todo.take i) h;have h2:(k.todo.take i).length≤i:=by rw[List.length_take];omega
 have h3:R.count h≤R.length:=List.count_le_length;omega
theorem IQ {h:Int} (hh:has σ h=true):∃x,σ.get? h=some x:=by
 unfold has at hh;cases hx:σ.get? h with
 | none=>rw[hx] at hh;cases hh
 | some x=>exact⟨x,rfl⟩
theorem U4 {h:Int} {x:Nd×Nat} (hx:σ.get? h=some x):has σ h=true:=by unfold has;rw[hx];rfl
theorem FN:∀(l m:List Int),l.Nodup→(∀x∈l,x∈m)→l.length≤m.length
 | [],_,_,_=>by simp
 | x::l,m,hn,hs=>by
  have hx:x∈m:=hs x (List.mem_cons_self ..)
  have ih:=FN l (m.erase x) (List.nodup_cons.1 hn).2 (fun y hy=>by
   have hne:y≠x:=fun e=>(List.nodup_cons.1 hn).1 (e▸hy)
   exact(List.mem_erase_of_ne hne).2 (hs y (List.mem_cons_of_mem _ hy)))
  have:=List.length_erase_of_mem hx;have:0<m.length:=List.length_pos_of_mem hx;simp only[List.length_cons];omega
theorem Qu {l:List Int} (hn:l.Nodup) (hh:∀h∈l,has σ h=true):l.length≤(Ar σ).length:=by
 have e:((Ar σ).map fun n:Nat=>(n:Int)).length=(Ar σ).length:=List.length_map _;rw[←e];refine FN _ _ hn fun h hm=>?_
 obtain⟨x,hx⟩:=IQ (hh h hm);obtain⟨m,hm,e⟩:=(B9 h).1 ⟨x,hx⟩;exact List.mem_map.2 ⟨m,hm,e.symm⟩
theorem GM.len (H:GM σ R k):k.todo.length≤(Ar σ).length:=Qu H.nodup H.there
theorem QG (h:Int):∀j,j≤σ.slots.length→((σ.occ j).map fun n:Nat=>refs (nd σ (n:Int)) h).sum=((σ.slots.take j).map (part · h)).sum
 | 0,_=>by simp[AA.occ]
 | j+1,hj=>by
  have ih:=QG h j (by omega);have hlt:j<σ.slots.length:=by omega
  rw[List.take_add_one,List.getElem?_eq_getElem hlt,Option.toList_some,List.map_append,List.sum_append, ←ih];simp only[List.map_cons,List.map_nil,List.sum_cons,List.sum_nil,Nat.add_zero];cases hx:σ.get? ((j:Int)+1) with
  | none =>
   rw[AA.EC hx]
   have h0:(σ.slots[j]).2=0:=by
    by_cases e:(σ.slots[j]).2=0
    · exact e
    exfalso;unfold AA.get? at hx;rw[if_pos (by omega),show((j:Int)+1-1).toNat=j by omega,List.getElem?_eq_getElem hlt] at hx;simp[Option.filter,e] at hx
   unfold Store.part;rw[if_pos h0];omega
  | some x =>
   rw[AA.D4 hx,List.map_append,List.sum_append];obtain⟨m,e,hm,h0,_⟩:=AA.AU hx;obtain rfl:m=j:=by omega
   rw[List.getElem?_eq_getElem hlt] at hm;have hm':σ.slots[m]=x:=Option.some.inj hm;have hn:nd σ ((m+1:Nat):Int)=x.1:=by rw[show((m+1:Nat):Int)=(m:Int)+1 by omega];exact BU hx
   simp only[List.map_cons,List.map_nil,List.sum_cons,List.sum_nil,Nat.add_zero];rw[hn,hm'];unfold Store.part;rw[if_neg h0]
theorem Lf (h:Int):((Ar σ).map fun n:Nat=>refs (nd σ (n:Int)) h).sum=CN σ h:=by
 have:=QG (σ:=σ) h σ.slots.length (Nat.le_refl _);rw[List.take_length] at this;exact this
theorem Wanting.U2 (H:Wanting σ R k.todo.length k) {h:Int} (h0:h≠0):k.cnt h=R.count h+(k.todo.map fun x=>refs (nd σ x) h).sum:=by
 have:=H.cnt h h0
 rwa [List.take_length] at this
theorem Wanting.full (H:Wanting σ R k.todo.length k) (G:Good σ) (hh:∀p,1≤held σ p→p∈R) {h:Int} {x:Nd×Nat} (hx:σ.get? h=some x):h∈k.todo:=by
 have hall:∀(r:Nat) (h:Int) (x:Nd×Nat),σ.get? h=some x→DS x.1<r→h∈k.todo:=by
  intro r
  induction r with
  | zero=>intro h x hx hr;have:=(Ex G hx).1;omega
  | succ r ih =>
   intro h x hx hrk;have h0:=E6 hx;refine(H.mem h).2 ?_;rw[H.U2 h0];rcases It G.sound hx with h1|⟨p,y,hy,hlr,hrank⟩
   · have:0<R.count h:=List.count_pos_iff.2 (hh h h1)
     omega
   have hp:=ih p y hy (by omega)
   have hr:1≤refs (nd σ p) h:=by
    rw[BU hy];unfold refs;rcases hlr with e|e
    · rw[if_pos e];omega
    rw[if_pos e];omega
   have:refs (nd σ p) h≤(k.todo.map fun x=>refs (nd σ x) h).sum:=by
    clear ih;generalize k.todo=l at hp
    induction l with
    | nil=>cases hp
    | cons a l ih =>
     simp only[List.map_cons,List.sum_cons];rcases List.mem_cons.1 hp with rfl|hp
     · omega
     have:=ih hp;omega
   omega
 have hb:=Ex G hx;exact hall 257 h x hx (by omega)
theorem Wanting.count (H:Wanting σ R k.todo.length k) (G:Good σ) (hh:∀p,1≤held σ p→p∈R) {h:Int} {x:Nd×Nat} (hx:σ.get? h=some x):(k.cnt h:Int)+held σ h=R.count h+x.2:=by
 have h0:=E6 hx
 have hp:k.todo.Perm ((Ar σ).map fun n:Nat=>(n:Int)):=by
  refine(List.perm_ext_iff_of_nodup H.nodup (List.Pairwise.map _ (fun a b h e=>h (Int.ofNat_inj.1 e)) E9)).2 fun y=>?_
  constructor
  · intro hy
    obtain⟨z,hz⟩:=IQ (H.there y hy);obtain⟨m,hm,e⟩:=(B9 y).1 ⟨z,hz⟩;exact List.mem_map.2 ⟨m,hm,e.symm⟩
  intro hy;obtain⟨m,hm,e⟩:=List.mem_map.1 hy;obtain⟨z,hz⟩:=(B9 y).2 ⟨m,hm,e.symm⟩;exact H.full G hh hz
 have hs:(k.todo.map fun y=>refs (nd σ y) h).sum=CN σ h:=by
  rw[←Lf h,(hp.map _).sum_nat,List.map_map];rfl
 have hc:=G.sound.counts h x hx;rw[H.U2 h0,hs,BI hx];simp only[List.count_nil] at hc;omega
end
end Go.Proofs.YtngbdbpofifimaaGreat.Store
namespace Go.Proofs.YtngbdbpofifimaaGreat
open Go.RowKit Go.Maps
namespace AA
end AA
abbrev ky (n:Int):Lit:=.int .i64 n
abbrev num (n:Int):DataW Value:=.lit (.int .i64 n)
def XU (v:Value):Option (DataW Value×List MemPlace):=some (.held v,[])
@[reducible] def Xt (a b c:Int):Value:=.agg #[.int .i64 a,.int .i64 b,.int .i64 c]
def XW (v:Value):Prop:=∃a b c,v=Xt a b c
structure YR (σ:AA) (Dc Dt:DataW Value) (k:Nat):Prop where
 cnt:∀n:Int,Dc.atKey (ky n) (num 0)=num (σ.count n)
 has:∀n:Int,Maps.has Dc (ky n)=(σ.get? n).isSome
 size:Maps.size Dc=σ.used
 thing:∀(n:Int) s z,σ.get? n=some s→Dt.atKey (ky n) z=.held s.1
 few:∀(n:Int) s,σ.get? n=some s→s.2≤k
 acts:∀(n:Int) s,σ.get? n=some s→XW s.1
theorem SZ (n:Int):WideAt.IsKeyLit (ky n):=trivial
theorem Vq {m n:Int} (h:m≠n):ky m≠ky n:=fun e=>h (by cases e;rfl)
end Go.Proofs.YtngbdbpofifimaaGreat
namespace Go.Proofs.YtngbdbpofifimaaGreat.Store
open Go.RowKit Go.Proofs.YtngbdbpofifimaaGreat.ShaW Go.Proofs.YtngbdbpofifimaaGreat.Path
open Go.Maps (Keyed keyOf_int_mk)
theorem MB {σ:AA Nd} (hw:σ.WF (fun _=>True)) {k:Int} {y:Nd×Nat} (h:σ.get? k=some y):1≤k∧k≤65536:=by
 obtain⟨m,rfl,_,_,hl⟩:=AA.AU h;have:=hw.len;have:=hw.room;omega
theorem OA {x:Int} (h0:0≤x) (h1:x≤65536):(Lit.int .i64 x).wf=true:=WalkArith.wf_i64 (by omega)
theorem Ul {σ:AA Nd} (hs:Sound σ []) (k:Int):((nd σ k).left=0∨has σ (nd σ k).left=true)∧((nd σ k).right=0∨has σ (nd σ k).right=true):=by
 cases hx:σ.get? k with
 | none=>rw[Ia hx];exact⟨.inl rfl,.inl rfl⟩
 | some x =>
  rw[BU hx];constructor
  · by_cases h0:x.1.left=0
    · exact .inl h0
    obtain⟨y,hy,_⟩:=hs.left k x hx h0;exact .inr (Cq hy)
  by_cases h0:x.1.right=0
  · exact .inl h0
  obtain⟨y,hy,_⟩:=hs.right k x hx h0;exact .inr (Cq hy)
theorem JB {σ:AA Nd} (hs:Sound σ []) {k:Int} (h:k=0∨has σ k=true):0≤k∧k≤65536:=by
 rcases h with rfl|h
 · omega
 obtain⟨x,hx⟩:=IQ h;have:=MB hs.wf hx;omega
noncomputable abbrev Nt:Value→Option (DataW Value×List MemPlace):=plainElem Tryz.prog 3
theorem Sg:Keyed Tryz.prog 3:=Go.Maps.int_keyed Tryz.underlying3
theorem Rv (w:World):(zeroValue 3).run Tryz.prog w=.ok (.int .i64 0) w:=by kernel_rfl
structure DB (w:World) (b n:Nat) (f:Int→Nat) (sz:Nat):Prop where
 ex:∃D,w.ownsMap Tryz.prog 3 Nt b n D∧Maps.size D=sz∧∀x:Int,D.atKey (ky x) (num 0)=num (f x)∧Maps.has D (ky x)=decide (0<f x)
theorem DB.Af {F:Nat→Prop} {w w':World} {b n sz:Nat} {f:Int→Nat} (h:DB w b n f sz) (hc:Ch F w w') (hb:¬F b):DB w' b n f sz:=by
 obtain⟨D,⟨es,clock,hg,r⟩,h2⟩:=h.ex;exact⟨D,⟨es,clock,hc.row hg hb,r⟩,h2⟩
theorem DB.isMap {w:World} {b n sz:Nat} {f:Int→Nat} (h:DB w b n f sz):∃es clock,w.heap[b]?=some (.map es clock):=by
 obtain⟨D,⟨es,clock,hg,r⟩,h2⟩:=h.ex;exact⟨es,clock,hg⟩
theorem DB.lt {w:World} {b n sz:Nat} {f:Int→Nat} (h:DB w b n f sz):b<w.heap.size:=by
 obtain⟨es,clock,hg⟩:=h.isMap;exact Ag hg
theorem DB.made (w:World):DB (w.alloc (.map #[] 0)) w.heap.size 0 (fun _=>0) 0 :=
 ⟨_,World.ownsMap_made w _ _ _,rfl,fun x=>⟨by simp[DataW.atKey],rfl⟩⟩
theorem DB.look {w:World} {b n sz:Nat} {f:Int→Nat} (h:DB w b n f sz) {x:Int} (hx:(Lit.int .i64 x).wf=true) :
 (Instr.lookup 241 (.map (some b)) (.int .i64 x) false).run Tryz.prog w=.ok (.int .i64 (f x:Nat)) w:=by
 obtain⟨D,h1,_,h2⟩:=h.ex;obtain⟨c,hr,hc,_⟩:=h1.lookup_int Sg Tryz.underlying241 Tryz.underlying3 (Rv w) (keyOf_int_mk Tryz.underlying3 hx);have:=(h2 x).1;rw[show num 0=.lit (.int .i64 0) from rfl,show ky x=.int .i64 x from rfl,hc] at this;simp only[num,DataW.lit.injEq,Lit.int.injEq,true_and] at this;rw[hr,this]
def Jj (f:Int→Nat) (x:Int):Int→Nat:=fun y=>f y+(if y=x then 1 else 0)
theorem LU {w:World} {b n sz:Nat} {f:Int→Nat} (h:DB w b n f sz) (hn:n<maxLen) {ops:Array Oper} {rest:List Oper} {o:Oper} {a:Act} {Q:Exit→Act→World→Prop}
 (hg:o.guard=none) (m x v:Operand) (hop:o.op=Op.mapUpdate 241 m x v) (hm:a.eval m=.map (some b)) (y:Int) (hx:a.eval x=.int .i64 y) (hy:(Lit.int .i64 y).wf=true) (c:Int) (hv:a.eval v=.int .i64 c) (hc:c=(f y:Nat)+1) (hcw:(Lit.int .i64 c).wf=true)
 (hK:∀w',DB w' b (n+1) (Jj f y) (if f y=0 then sz+1 else sz)→Ch (fun k=>k=b) w w'→wpList Tryz.prog ops Q rest (a.put o.dst undef) w'):wpList Tryz.prog ops Q (o::rest) a w:=by
 obtain⟨D,h1,hsz,h2⟩:=h.ex;refine wpList_mapUpdate_own w hg m x v _ hop 3 3 Sg Tryz.underlying241 Nt b n D hm h1 hn _ _ (ky y) hx hv (keyOf_int_mk Tryz.underlying3 hy) (num c) [] (plainElem_int Tryz.underlying3 hcw) ?_;intro w' h3 h4;have hmp:=h1.isMap;refine hK w' ⟨_,h3,?_,fun z=>?_⟩ ((Ch.refl _ w).grown h4 (fun k hk=>.inl (by cases hk;rfl)))
 · rw[Maps.size_put (h1.tidy Sg),(h2 y).2,hsz]
   by_cases e:f y=0
   · rw[if_pos e,if_neg (by simp[e])]
   rw[if_neg e,if_pos (decide_eq_true (by omega))]
 by_cases hz:z=y
 · subst hz
   refine⟨?_,?_⟩
   · rw[Maps.atKey_put_same hmp (SZ _),hc]
     simp[Jj]
   rw[Maps.has_put_same hmp (SZ _)];exact(decide_eq_true (by simp[Jj])).symm
 refine⟨?_,?_⟩
 · rw[Maps.atKey_put_other (Vq hz),(h2 z).1]
   simp[Jj,hz]
 rw[Maps.has_put_other (Vq hz),(h2 z).2];simp[Jj,hz]
def Cf (l:List Int):List Value:=l.map (Value.int .i64)
structure Gj (w0 w:World) (b5 b6 m n:Nat) (k:Wk):Prop where
 r5:w.heap[b5]?=some (.cells #[.map (some m)] 241 (0,0))
 r6:∃ao cap,w.heap[b6]?=some (.cells #[.slice ao k.todo.length cap] 61 (0,0))∧w.ownsRow w0.heap.size 3 1 (.slice ao k.todo.length cap) k.todo.length (Cf k.todo)
 cnt:DB w m n k.cnt k.todo.length
 adds:Ch (fun _=>False) w0 w
 m0:w0.heap.size≤m
 b60:w0.heap.size≤b6
theorem Gj.Af {w0 w w':World} {b5 b6 m n:Nat} {k:Wk} (h:Gj w0 w b5 b6 m n k) (a:Adds w w'):Gj w0 w' b5 b6 m n k:=by
 obtain⟨ao,cap,h1,h2⟩:=h.r6;exact⟨a.row h.r5 id,⟨ao,cap,a.row h1 id,a.owns h2 (fun _ _ h=>h)⟩,h.cnt.Af a id,h.adds.trans a (fun _=>fEq),h.m0,h.b60⟩
end Go.Proofs.YtngbdbpofifimaaGreat.Store
namespace Go.Proofs.YtngbdbpofifimaaGreat.Store
open Go.RowKit Go.Proofs.YtngbdbpofifimaaGreat.ShaW Go.Proofs.YtngbdbpofifimaaGreat.Path
theorem Ta:∃i,Tryz.prog.info? 3=some i∧i.zero=some (.int .i64 0)∧i.size=1∧i.bytes=8:=by
 obtain⟨i,h1,h2,h3,h4⟩:=info_parts (P:=Tryz.prog) (e:=3) (z:=.int .i64 0) (size:=1) (bytes:=8) (by kernel_rfl);exact⟨i,h1,h2,h3,h4⟩
def C8 (w:World) (ao:Option Addr) (l:List Int):Prop:=∀i x,l[i]?=some x→∃g off,ao=some ⟨g,off,none⟩∧w.cell? ⟨g,off+i,none⟩=some (.int .i64 x)
theorem C8.adds {w w':World} {ao:Option Addr} {l:List Int} (h:C8 w ao l) (a:Adds w w'):C8 w' ao l:=fun i x hx=>by
 obtain⟨g,off,h1,h2⟩:=h i x hx;exact⟨g,off,h1,a.cell h2 id⟩
theorem C8.own {w:World} {base n:Nat} {ao:Option Addr} {cap:Nat} {l:List Int} (h:w.ownsRow base 3 1 (.slice ao n cap) n (Cf l)):C8 w ao l∧l.length=n:=by
 have hl:l.length=n:=by have:=h.1;simp[Cf] at this;omega
 refine⟨fun i x hx=>?_,hl⟩;have hi:=(List.getElem?_eq_some_iff.1 hx).1;obtain⟨g,cap',cur,he,hg,h1,h2,h3,h4⟩:=DM h (by omega);cases he;refine⟨g,0,rfl,?_⟩;rw[Nat.zero_add];refine AE hg (FM h4 ?_);unfold Cf;rw[List.getElem?_map,hx];rfl
def JE (σ:AA Nd):List Int→Int
 | []=>0
 | h::R=>if Ap σ h≠0 then Ap σ h else JE σ R
def chk (σ:AA Nd) (R:List Int):Int:=if 64<R.length then 4 else JE σ R
theorem Gy {σ:AA Nd}:∀ {R:List Int},JE σ R=0↔∀h∈R,Ap σ h=0
 | []=>by simp[JE]
 | h::R=>by
  unfold JE;by_cases e:Ap σ h=0
  · rw[if_neg (by simpa using e),Gy]
    exact⟨fun H x hx=>(List.mem_cons.1 hx).elim (fun q=>q▸e) (H x),fun H x hx=>H x (List.mem_cons_of_mem _ hx)⟩
  rw[if_pos e];exact⟨fun H=>absurd H e,fun H=>H h (List.mem_cons_self ..)⟩
theorem LH {σ:AA Nd}:∀ {l:List Int} {h:Int} {r:List Int},(∀x∈l,Ap σ x=0)→Ap σ h≠0→JE σ (l++h::r)=Ap σ h
 | [],h,r,_,hh=>by show JE σ (h::r)=_;unfold JE;rw[if_pos hh]
 | a::l,h,r,hl,hh=>by
  show JE σ (a::(l++h::r))=_
  unfold JE;rw[if_neg (by simpa using hl a (List.mem_cons_self ..))];exact LH (fun x hx=>hl x (List.mem_cons_of_mem _ hx)) hh
section
variable {w w0 : World} {s : Nat} {F : Nat→Prop} {σ : AA Nd}
theorem N0 (h:At w s F σ) {ao:Option Addr} {R:List Int} (cap:Nat) (hR:C8 w ao R) (hl:R.length<4611686018427387904) :
 Calls Tryz.prog 148 #[.pointer (some ⟨s,0,none⟩),.slice ao R.length cap] w fun e w'=>e=.returned (.int .i64 (chk σ R))∧Adds w w':=by
 obtain⟨n,hn⟩:∃n,n=R.length:=⟨_,rfl⟩
 have hr1:¬((σ.room:Nat):Int)=0:=by have:=h.room;omega
 have hro:=ER h;have hrt:=fun w1 (a:Adds w w1) x=>GC (h.adds a) x
 rw[←hn] at hl ⊢;obtain⟨rm,hrm⟩:∃rm,rm=((σ.room:Nat):Int):=⟨_,rfl⟩
 rw[←hrm] at hr1 hro;have hrb:(rm == 0)=false:=by simpa using hr1
 have HRO:=Lib.hid hro;have HRT:=Lib.hid hrt;have HR:=Lib.hid hR;have HN:=Lib.hid hn;clear hro hrt hR hn hrm h;by_cases hbig:64<n
 · have hc:chk σ R=4:=by unfold chk;rw[if_pos (by rw[←HN.out];exact hbig)]
   rw[hc];have d64:decide ((64:Int)<(n:Int))=true:=decide_eq_true (by omega);clear hc;go_enter Tryz.func148,Tryz.ntmps148;go_wp2_with fail;refine HRO.out.mono ?_;rintro e w1 ⟨rfl,rfl⟩;go_wp2;go_ret;exact⟨rfl,Ch.refl _ _⟩
 have hc:chk σ R=JE σ R:=by unfold chk;rw[if_neg (by rw[←HN.out];exact hbig)]
 have HC:=Lib.hid hc;have d64:decide ((64:Int)<(n:Int))=false:=decide_eq_false (by omega);have hn64:n≤64:=by omega
 clear hc hbig hl;go_enter Tryz.func148,Tryz.ntmps148;go_wp2_with fail;refine HRO.out.mono ?_;rintro e w1 ⟨rfl,rfl⟩;go_wp2;go_loopg [6,7,16] n (fun g s6 s7 s16 wr=>∃k:Nat,s16=.int .i64 k∧k+g=n∧RowKit.Hid (∀x∈R.take k,Ap σ x=0)∧Adds w wr)
 case atStart=>exact⟨0,rfl,by omega,Lib.hid (fun x hx=>by simp at hx),Ch.refl _ _⟩
 obtain⟨k,rfl,hk,ht,hA⟩:=hrel;have HA:=Lib.hid hA;clear hA;by_cases hkl:k=n
 · subst hkl
   go_wp2;go_ret;have h9:JE σ R=0:=Gy.2 (fun x hx=>ht.out x (by rw[List.take_of_length_le (Nat.le_of_eq HN.out.symm)];exact hx));rw[HC.out,h9];exact⟨rfl,HA.out⟩
 have hk1:(k:Int)<(n:Int):=by omega
 have hk2:k<n:=by omega
 obtain⟨g,rfl⟩:∃g,gk=g+1:=⟨gk-1,by omega⟩
 obtain⟨x,hx⟩:∃x,R[k]?=some x:=⟨_,List.getElem?_eq_getElem (by have:=HN.out;omega)⟩
 obtain⟨g1,o1,rfl,q1⟩:=HR.out k x hx;have q1':=HA.out.cell q1 id;have HX:=Lib.hid hx;have HRX:=Lib.hid (HRT.out _ HA.out x);clear hx q1 HR HRT;by_cases he:Ap σ x=0
 · have hrx:=HRX.out
   rw[he] at hrx;have HRY:=Lib.hid hrx;have HE:=Lib.hid he;clear hrx he;go_wp2_with fail;refine HRY.out.mono ?_;rintro e w2 ⟨rfl,a2⟩;have A2:=Lib.hid (HA.out.trans a2 (fun _=>fEq));clear a2;go_wp2;go_roundg g
   case measure=>omega
   refine⟨k+1,by simp,by omega,Lib.hid (fun y hy=>?_),A2.out⟩;rw[List.take_add_one,HX.out,Option.toList_some,List.mem_append,List.mem_singleton] at hy;rcases hy with hy|rfl
   · exact ht.out y hy
   exact HE.out
 have hsp:JE σ R=Ap σ x:=by
  have hlt:=(List.getElem?_eq_some_iff.1 HX.out).1
  have:R=R.take k++x::R.drop (k+1):=by
   conv=>lhs;rw[←List.take_append_drop k R,List.drop_eq_getElem_cons hlt]
   rw[(List.getElem?_eq_some_iff.1 HX.out).2]
  rw[this];exact LH ht.out he
 have HSP:=Lib.hid hsp;obtain⟨c,hc⟩:∃c,c=Ap σ x:=⟨_,rfl⟩
 have HCC:=Lib.hid hc;have hrx:=HRX.out;rw[←hc] at hrx he;have HRY:=Lib.hid hrx;clear hrx hc hsp;go_wp2_with fail;refine HRY.out.mono ?_;rintro e w2 ⟨rfl,a2⟩;have A2:=Lib.hid (HA.out.trans a2 (fun _=>fEq));clear a2;go_wp2;go_ret;rw[HC.out,HSP.out, ←HCC.out];exact⟨rfl,A2.out⟩
end
section
variable {w w0 : World} {b5 b6 m n : Nat} {k : Wk}
theorem DB.mono {f:Int→Nat} {b n n' sz:Nat} (h:DB w b n f sz) (hn:n≤n'):DB w b n' f sz:=by
 obtain⟨D,h1,h2⟩:=h.ex;exact⟨D,h1.mono hn,h2⟩
theorem Gj.mono (h:Gj w0 w b5 b6 m n k) {n':Nat} (hn:n≤n'):Gj w0 w b5 b6 m n' k:=⟨h.r5,h.r6,h.cnt.mono hn,h.adds,h.m0,h.b60⟩
theorem Iz {g:Nat} {base len cap:Nat} {ao:Option Addr} {L:List Value} (own:w.ownsRow base 3 1 (.slice ao len cap) len L) (hg:(Value.slice ao len cap).ownBlock=some g):∃cur,w.heap[g]?=some (.cells cur 3 (0,0)):=by
 rcases own.2 with⟨hnil,_⟩|⟨g',cap',cur,he,hb,hr,_⟩
 · rw[hnil] at hg;cases hg
 rw[he] at hg;simp only[Value.ownBlock,Option.some.injEq] at hg;subst hg;exact⟨cur,hr⟩
theorem Gj.apart (H:Gj w0 w b5 b6 m n k):b5≠b6∧m≠b5∧m≠b6:=by
 obtain⟨ao,cap,h6,_⟩:=H.r6;obtain⟨es,clock,hm⟩:=H.cnt.isMap;have h5:=H.r5;refine⟨fun e=>?_,fun e=>?_,fun e=>?_⟩
 · rw[e,h6] at h5;simp at h5
 · rw[e,h5] at hm;cases hm
 rw[e,h6] at hm;cases hm
theorem Gj.grown (H:Gj w0 w b5 b6 m n k) {ao:Option Addr} {len cap:Nat} {L:List Value} (own:w.ownsRow w0.heap.size 3 1 (.slice ao len cap) len L) {w1:World} (a1:Adds w w1) {w4:World} (g:w1.grownBy w4 (Value.slice ao len cap).ownBlock) :
 w4.heap[b5]?=some (.cells #[.map (some m)] 241 (0,0))∧(∃v,w4.heap[b6]?=some (.cells #[v] 61 (0,0)))∧DB w4 m n k.cnt k.todo.length∧Adds w0 w4:=by
 obtain⟨ao',cap',h6,_⟩:=H.r6;obtain⟨es,clock,hm⟩:=H.cnt.isMap
 have hne:∀b,(Value.slice ao len cap).ownBlock=some b→b≠b5∧b≠b6∧b≠m:=fun b hb=>by
  obtain⟨cur,hc⟩:=Iz own hb;refine⟨fun e=>?_,fun e=>?_,fun e=>?_⟩
  · rw[e,H.r5] at hc;simp at hc
  · rw[e,h6] at hc;simp at hc
  rw[e,hm] at hc;cases hc
 have hc:Ch (fun b=>(Value.slice ao len cap).ownBlock=some b) w1 w4:=(Ch.refl _ w1).grown g (fun b hb=>.inl hb);have h1:=H.Af a1;obtain⟨ao2,cap2,h62,_⟩:=h1.r6;refine⟨hc.row h1.r5 (fun hb=>(hne _ hb).1 rfl),⟨_,hc.row h62 (fun hb=>(hne _ hb).2.1 rfl)⟩,h1.cnt.Af hc (fun hb=>(hne _ hb).2.2 rfl),h1.adds.trans hc (fun b hb=>.inr (own.lt b hb).1)⟩
theorem NT (H:Gj w0 w b5 b6 m n k) (h:Int) (hh:0≤h∧h≤65536) (hn:n<1000000) (hl:k.todo.length≤65536) (hc:k.cnt h≤1000000) :
 Calls Tryz.prog 220 #[.int .i64 h,.pointer (some ⟨b5,0,none⟩),.pointer (some ⟨b6,0,none⟩)] w fun e w'=>e=.returned (.tuple #[])∧Gj w0 w' b5 b6 m (n+1) (k.want h):=by
 have hwf:=OA hh.1 hh.2;obtain⟨hne,hm5,hm6⟩:=H.apart;obtain⟨ao,cap,r6,own⟩:=H.r6;have c5:=AE H.r5 (i:=0) rfl;have c6:=AE r6 (i:=0) rfl;by_cases h0:h=0
 · subst h0
   have HH:=Lib.hid H;clear r6 own H hc;go_enter Tryz.func220,Tryz.ntmps220;go_wp2
   try simp only[Exit.inBlock,Exit.then]
   refine bodyPost_ret (results_none rfl _ _ _) rfl ?_;exact⟨rfl,by rw[Wk.FO];exact HH.out.mono (by omega)⟩
 have hlk:=H.cnt.look (x:=h) hwf;obtain⟨i0,p1,p2,p3,p4⟩:=Ta;have HI:=(hIq p1 (aIq p2 (aIq p3 p4)))
 obtain⟨len,hlen⟩:∃len,len=k.todo.length:=⟨_,rfl⟩
 rw[←hlen] at r6 own c6 hl;have HLEN:=Lib.hid hlen;have HO:=Lib.hid own;have HH:=Lib.hid H;have HWF:=Lib.hid hwf;have HSZ:=Lib.hid (H.adds.size);clear p1 p2 p3 p4 hlen own hwf r6;by_cases hc0:k.cnt h=0
 · have HC0:=Lib.hid hc0
   rw[hc0] at hlk;clear hc hc0 H;go_enter Tryz.func220,Tryz.ntmps220
   go_wp2_with (first
    | fail
    | (at_builtin;refine wpList_append_own _ rfl _ _ 61 rfl w0.heap.size 3 i0 (.int .i64 0) 1 8 Tryz.underlying61 HI.out.1 HI.out.2.1 HI.out.2.2.1 HI.out.2.2.2 rfl (by decide) (.slice ao len cap) len (Cf k.todo) rfl (HO.out.alloc _) ⟨w.heap.size,0,none⟩ 1 1 [.int .i64 h] rfl rfl (CX (cs:=#[.int .i64 h]) (t:=3) (fr:=(0,0)) (An _ _ _ (by simp))) (by simp[Value.oneCell']) (by unfold maxLen;omega) (by omega) (by have:=HSZ.out;simp;omega) ?_;intro v' w4 own' grow' nil';obtain⟨vo,vc,rfl⟩:=Ad own';have hg4:=HH.out.grown HO.out ((Ch.refl _ w).alloc _) grow';have H4:=(hIq own' hg4);clear own' grow' nil' c5 c6 hlk;have c5:=AE (H4.out.2.1) (i:=0) rfl;have c6:=AE (H4.out.2.2.1.choose_spec) (i:=0) rfl;have f6:=Ah (H4.out.2.2.1.choose_spec) 0;have l6:=Ag (H4.out.2.2.1.choose_spec);have hlk:(Instr.lookup 241 (.map (some m)) (.int .i64 h) false).run Tryz.prog (w4.setCell ⟨b6,0,none⟩ (.slice vo (len+1) vc))=.ok (.int .i64 (k.cnt h:Nat)) (w4.setCell ⟨b6,0,none⟩ (.slice vo (len+1) vc)):=(H4.out.2.2.2.1.Af ((Ch.refl (fun b=>b=b6) w4).setCell (p:=⟨b6,0,none⟩) (.inl rfl) _) hm6).look HWF.out;rw[HC0.out] at hlk;clear hg4)
    | (at_mapUpdate;refine LU (H4.out.2.2.2.1.Af ((Ch.refl (fun b=>b=b6) w4).setCell (p:=⟨b6,0,none⟩) (.inl rfl) _) hm6) (by unfold maxLen;omega) rfl _ _ _ rfl rfl h rfl HWF.out 1 rfl (by rw[HC0.out];rfl) (by decide) ?_;intro w5 cnt5 ch5;have H5:=(hIq cnt5 ch5);clear cnt5 ch5))
   go_end0;refine⟨rfl,?_⟩;obtain⟨own',r5',⟨v6,r6'⟩,U2,a4⟩:=H4.out;obtain⟨cnt5,ch5⟩:=H5.out;have hw:k.want h=⟨k.todo ++ [h],Jj k.cnt h⟩:=by rw[Wk.Gu k h0,if_pos HC0.out];rfl
   rw[if_pos HC0.out] at cnt5;have hlen:len+1=(k.todo ++ [h]).length:=by rw[List.length_append, ←HLEN.out];rfl
   have q5:=ch5.row (Aq (p:=⟨b6,0,none⟩) r5' hne (.slice vo (len+1) vc)) (fun e=>hm5 e.symm);have q6:=ch5.row (AP r6' 0 (.slice vo (len+1) vc)) (fun e=>hm6 e.symm)
   have qo:=(((Ch.refl (fun b=>b=b6∨b=m) w4).setCell (p:=⟨b6,0,none⟩) (.inl (.inl rfl)) (.slice vo (len+1) vc)).trans ch5 (fun b hb=>.inl (.inr hb))).owns own' (fun g hg e=>by
    obtain⟨cur,hc⟩:=Iz own' hg;obtain⟨es,clock,hmm⟩:=U2.isMap;rcases e with rfl|rfl
    · rw[r6'] at hc;simp at hc
    rw[hmm] at hc;cases hc)
   rw[hw];refine⟨q5,⟨vo,vc,?_,?_⟩,?_,?_,HH.out.m0,HH.out.b60⟩
   · rw[←hlen];exact q6
   · rw[←hlen]
     have:Cf (k.todo ++ [h])=Cf k.todo ++ [Value.int .i64 h]:=by simp[Cf]
     rw[this];exact qo
   · show DB _ m (n+1) (Jj k.cnt h) (k.todo ++ [h]).length
     rw[List.length_append];exact cnt5
   exact(a4.setCell (p:=⟨b6,0,none⟩) (.inr HH.out.b60) (.slice vo (len+1) vc)).trans ch5 (fun b hb=>.inr (hb▸HH.out.m0))
 have hb0:¬((k.cnt h:Nat):Int)=0:=by omega
 have hcw:IntKind.i64.wrap ((k.cnt h:Int)+1)=(k.cnt h:Int)+1:=IntWalk.i64_in _ (by omega);have HC1:RowKit.Hid ((Lit.int .i64 ((k.cnt h:Int)+1)).wf=true):=Lib.hid (WalkArith.wf_i64 (by omega));have HC0:=Lib.hid hc0;obtain⟨c,hcc⟩:∃c:Int,c=(k.cnt h:Nat):=⟨_,rfl⟩
 rw[←hcc] at hlk hb0 hcw HC1;have HCC:=Lib.hid hcc;clear hc hc0 H hcc;go_enter Tryz.func220,Tryz.ntmps220
 go_wp2_with (first
  | fail
  | (at_mapUpdate;refine LU HH.out.cnt (by unfold maxLen;omega) rfl _ _ _ rfl rfl h rfl HWF.out (c+1) rfl (by rw[HCC.out]) HC1.out ?_;intro w5 cnt5 ch5;have H5:=(hIq cnt5 ch5);clear cnt5 ch5))
 go_end0;refine⟨rfl,?_⟩;obtain⟨cnt5,ch5⟩:=H5.out;obtain⟨ao',cap',r6',own'⟩:=HH.out.r6;have hw:k.want h=⟨k.todo,Jj k.cnt h⟩:=by rw[Wk.Gu k h0,if_neg HC0.out];rfl
 rw[if_neg HC0.out] at cnt5;rw[hw];refine⟨ch5.row HH.out.r5 (fun e=>hm5 e.symm),⟨ao',cap',ch5.row r6' (fun e=>hm6 e.symm),ch5.owns own' (fun g hg e=>?_)⟩,cnt5,HH.out.adds.trans ch5 (fun b hb=>.inr (hb▸HH.out.m0)),HH.out.m0,HH.out.b60⟩;obtain⟨cur,hc⟩:=Iz own' hg;obtain⟨es,clock,hmm⟩:=HH.out.cnt.isMap;subst e;rw[hmm] at hc;cases hc
end
section
variable {w : World} {s : Nat} {F : Nat→Prop} {σ : AA Nd}
theorem Wanting.len {R:List Int} {i:Nat} {k:Wk} (H:Wanting σ R i k) (hs:Sound σ []):k.todo.length≤65536:=by
 have h1:=H.ed.len;have h2:(Ar σ).length≤σ.slots.length:=AA.ID σ _;have h3:=hs.wf.len;have h4:=hs.wf.room;omega
theorem Gj.todo {w0 wr:World} {b5 b6 m n:Nat} {k:Wk} (H:Gj w0 wr b5 b6 m n k) {i:Nat} {x:Int} (hx:k.todo[i]?=some x):∃g cap,wr.heap[b6]?=some (.cells #[.slice (some ⟨g,0,none⟩) k.todo.length cap] 61 (0,0))∧wr.cell? ⟨g,i,none⟩=some (.int .i64 x):=by
 obtain⟨ao,cap,h1,h2⟩:=H.r6;obtain⟨g,off,e,hc⟩:=(C8.own h2).1 i x hx;obtain⟨g',cap',cur,he,hg,_⟩:=DM h2 (by have:=(List.getElem?_eq_some_iff.1 hx).1;omega);rw[e] at he;cases he;rw[e] at h1;exact⟨_,_,h1,by simpa using hc⟩
theorem R4 {P:Program} {C:Code} {Q:Exit→Act→World→Prop} {a:Act} {w:World} (h:∀w0,w0=w→C.wp P Q a w0):C.wp P Q a w:=h w rfl
theorem O5 (h:At w s F σ) (G:Good σ) {ao:Option Addr} {R:List Int} (cap:Nat) (hR:C8 w ao R) (hl:R.length≤64) (hh:∀x∈R,x=0∨has σ x=true) :
 Calls Tryz.prog 149 #[.pointer (some ⟨s,0,none⟩),.slice ao R.length cap] w fun e w'=>∃m n k,e=.returned (.map (some m))∧Wanting σ R k.todo.length k∧DB w' m n k.cnt k.todo.length∧n≤200000∧w.heap.size≤m∧Adds w w':=by
 obtain⟨N,hN⟩:∃N,N=R.length:=⟨_,rfl⟩
 have hsd:=fun w1 (a:Adds w w1) x=>Gp (h.adds a) x
 rw[←hN] at hl ⊢;have HSD:=Lib.hid hsd;have HR:=(hIq hR (aIq hN hh))
 have HG:=Lib.hid G;have hmm:=@run_makeMap Tryz.prog;have hmf:∀(fn:Fn) (first cap:Array Value) (w:World),(Instr.makeFunc fn first cap).run Tryz.prog w=.ok (.func fn first cap) w:=fun _ _ _ _=>rfl
 clear hsd hR hN hh G h;go_enter Tryz.func149,Tryz.ntmps149;go_wp2_with fail;refine R4 (fun w1 hw1=>?_)
 have hk0:Gj w w1 (w.heap.size+1) (w.heap.size+1+1) w.heap.size 0 Wk.start:=by
  have e1:=heap_alloc_new (w.alloc (.map #[] 0)) (.cells #[.map (some w.heap.size)] 241);have e2:=heap_alloc_new ((w.alloc (.map #[] 0)).alloc (.cells #[.map (some w.heap.size)] 241)) (.cells #[.slice none 0 0] 61);have ha:Adds w w1:=by rw[hw1];exact(((Ch.refl _ w).alloc _).alloc _).alloc _
  refine⟨?_,⟨none,0,?_,World.ownsRow_nil _ _ _ _⟩,?_,ha,Nat.le_refl _,by omega⟩
  · rw[hw1]
    refine AI ?_ _;simpa using e1
  · rw[hw1]
    simpa[Wk.start] using e2
  rw[hw1];exact(DB.made w).Af (((Ch.refl (fun _=>False) _).alloc _).alloc _) id
 obtain⟨b5,hb5⟩:∃b,b=w.heap.size+1:=⟨_,rfl⟩
 obtain⟨b6,hb6⟩:∃b,b=b5+1:=⟨_,rfl⟩
 obtain⟨m,hm⟩:∃b,b=w.heap.size:=⟨_,rfl⟩
 rw[←hb5, ←hb6, ←hm] at hk0;have HK0:=(hIq hk0 (aIq hb6 (aIq hb5 hm)))
 simp only[←hb5];simp only[←hb6];clear hk0 hw1 hb6 hb5 hm;go_loopg [9,17] N (fun g s9 s17 wr=>∃(i n:Nat) (k:Wk),s17=.int .i64 i∧i+g=N∧n≤i∧Gj w wr b5 b6 m n k∧Wanting σ (R.take i) 0 k)
 case atStart=>exact⟨0,0,Wk.start,rfl,by omega,Nat.le_refl _,HK0.out.1,Wanting.start σ⟩
 obtain⟨i,n,k,rfl,hi,hni,hW,hK⟩:=hrel;have hsm:k.todo.length≤65536:=hK.len HG.out.sound;have hbd:=hK.bound;have HW:=(hIq hW (aIq hK (aIq hsm hbd)))
 clear hW hK hsm hbd;by_cases hin:i=N
 · subst hin
   have hK0:Wanting σ R 0 k:=by
    have:=HW.out.2.1
    rwa [List.take_of_length_le (Nat.le_of_eq HR.out.2.1.symm)] at this
   have HS:=(hIq HW.out.1 hK0)
   clear hK0 hi HW HK0;go_wp2;go_loopg [10,11,12,31] 70000 (fun g s10 s11 s12 s31 wq=>∃(j n:Nat) (k:Wk),s10=.int .i64 j∧j+g=70000∧j≤k.todo.length∧n≤i+2*j∧Gj w wq b5 b6 m n k∧Wanting σ R j k)
   case atStart=>exact⟨0,n,k,rfl,rfl,Nat.zero_le _,by omega,HS.out.1,HS.out.2⟩
   obtain⟨j,n2,k2,rfl,hj,hjl,hn2,hW,hK⟩:=hrel;have hsm:k2.todo.length≤65536:=hK.len HG.out.sound;have hbd:=hK.bound;obtain⟨len,hlen⟩:∃len,len=k2.todo.length:=⟨_,rfl⟩
   have HW:=(hIq hW (aIq hK (aIq hlen hbd)))
   rw[←hlen] at hsm hjl;clear HS hbd hlen;by_cases hjn:j=len
   · subst hjn
     obtain⟨ao6,cap6,r6,own6⟩:=hW.r6;rw[←HW.out.2.2.1] at r6;have c6:=AE r6 (i:=0) rfl;have c5:=AE hW.r5 (i:=0) rfl;clear own6 r6 hW hK;go_wp2;go_ret;refine⟨m,n2,k2,rfl,?_,HW.out.1.cnt,by omega,HW.out.1.m0,HW.out.1.adds⟩;rw[←HW.out.2.2.1];exact HW.out.2.1
   have hj1:(j:Int)<(len:Int):=by omega
   have hj2:j<len:=by omega
   obtain⟨g,rfl⟩:∃g,gk=g+1:=⟨gk-1,by omega⟩
   obtain⟨x,hx⟩:∃x,k2.todo[j]?=some x:=⟨_,List.getElem?_eq_getElem (by have:=HW.out.2.2.1;omega)⟩
   obtain⟨g6,cap6,r6,cx⟩:=hW.todo hx;rw[←HW.out.2.2.1] at r6;have c6:=AE r6 (i:=0) rfl;have HX:=Lib.hid hx;have hsd:=HSD.out _ hW.adds x;obtain⟨l,hl'⟩:∃l,l=(nd σ x).left:=⟨_,rfl⟩
   obtain⟨r,hr'⟩:∃r,r=(nd σ x).right:=⟨_,rfl⟩
   rw[←hl', ←hr'] at hsd;have HSX:=Lib.hid hsd;have HLR:=(hIq hl' hr')
   clear hx r6 hsd hl' hr' hW hK;go_wp2_with fail;refine HSX.out.mono ?_;rintro e w3 ⟨rfl,a3⟩;have hso:=Ul HG.out.sound x;rw[←HLR.out.1, ←HLR.out.2] at hso;have hcl:=HW.out.2.2.2 l;have hcr:=HW.out.2.2.2 r;have H3:=(hIq (HW.out.1.Af a3) hso)
   have hwl:=NT H3.out.1 l (JB HG.out.sound H3.out.2.1) (by omega) (by rw[←HW.out.2.2.1];exact hsm) (by have:=HR.out.2.1;omega);have HWL:=Lib.hid hwl;clear a3 hso hwl c6 cx;go_wp2_with fail;refine HWL.out.mono ?_;rintro e w4 ⟨rfl,h4⟩;have H4:=Lib.hid h4
   have hk4:(k2.want l).cnt r≤k2.cnt r+1:=by
    by_cases r0:r=0
    · rw[r0,Wk.MS _ _ HW.out.2.1.zero];omega
    rw[Wk.Iv _ _ r0];split<;>omega
   have hl4:(k2.want l).todo.length≤65536:=by
    have hwd:GM σ R (k2.want l):=HW.out.2.1.ed.want H3.out.2.1 (fun h0=>by
     have:=(HW.out.2.1.fro x (List.mem_of_getElem? HX.out))
     rw[HLR.out.1] at h0 ⊢;exact .left this h0)
    have h1:=hwd.len;have h2:(Ar σ).length≤σ.slots.length:=AA.ID σ _;have h3:=HG.out.sound.wf.len;have h4:=HG.out.sound.wf.room;omega
   have hwr:=NT H4.out r (JB HG.out.sound H3.out.2.2) (by omega) hl4 (by have:=HR.out.2.1;omega);have HWR:=Lib.hid hwr;clear h4 hwr hk4 hl4;go_wp2_with fail;refine HWR.out.mono ?_;rintro e w5 ⟨rfl,h5⟩;have H5:=Lib.hid h5;have hwj:IntKind.i64.wrap ((j:Int)+1)=(j:Int)+1:=IntWalk.i64_in _ (by omega);clear h5;go_wp2;go_roundg g
   case measure=>omega
   refine⟨j+1,n2+1+1,(k2.want l).want r,by first|(simp;done)|(simp[hwj];done),by omega,?_,by omega,H5.out,?_⟩
   · obtain⟨l1,e1,_⟩:=Wk.G5 k2 l
     obtain⟨l2,e2,_⟩:=Wk.G5 (k2.want l) r;rw[e2,e1,List.length_append,List.length_append, ←HW.out.2.2.1];omega
   have:=HW.out.2.1.side HX.out (by rw[←HLR.out.1];exact H3.out.2.1) (by rw[←HLR.out.2];exact H3.out.2.2);rw[←HLR.out.1, ←HLR.out.2] at this;exact this
 have hi1:(i:Int)<(N:Int):=by omega
 have hi2:i<N:=by omega
 obtain⟨g,rfl⟩:∃g,gk=g+1:=⟨gk-1,by omega⟩
 obtain⟨x,hx⟩:∃x,R[i]?=some x:=⟨_,List.getElem?_eq_getElem (by have:=HR.out.2.1;omega)⟩
 obtain⟨g1,o1,rfl,q1⟩:=HR.out.1 i x hx;have q1':=HW.out.1.adds.cell q1 id;have HX:=Lib.hid hx;clear hx q1;have hxx:x=0∨has σ x=true:=HR.out.2.2 x (List.mem_of_getElem? HX.out);have hwt:=NT HW.out.1 x (JB HG.out.sound hxx) (by omega) HW.out.2.2.1 (by have:=HW.out.2.2.2 x;rw[List.length_take] at this;omega);have HWT:=Lib.hid hwt;have HXX:=Lib.hid hxx;clear hwt hxx;go_wp2_with fail;refine HWT.out.mono ?_;rintro e w2 ⟨rfl,h2⟩;have H2:=Lib.hid h2;clear h2;go_wp2;go_roundg g
 case measure=>omega
 refine⟨i+1,n+1,k.want x,by simp,by omega,by omega,H2.out,?_⟩;have:=HW.out.2.1.mono HXX.out;rw[List.take_add_one,HX.out];exact this
end
theorem XY:∃i z,Tryz.prog.info? 245=some i∧i.zero=some z∧i.size=3∧i.bytes=24∧z.cells.size=3:=by
 obtain⟨i,h1,h2⟩:=Option.map_eq_some_iff.1 (by kernel_rfl:(Tryz.prog.info? 245).map (fun i=>(i.size,i.bytes,i.zero.map (fun z=>z.cells.size)))=some (3,24,some 3));simp only[Prod.mk.injEq,Option.map_eq_some_iff] at h2;obtain⟨h2,h3,z,h4,h5⟩:=h2;exact⟨i,z,h1,h4,h2,h3,h5⟩
def Fe (σ:AA Nd) (f:Int→Nat) (l:List Nat):List (Int×Int×Int):=l.filterMap fun h:Nat=>if ((σ.count (h:Int):Nat):Int)=(f (h:Int):Nat) then none else some ((h:Int),((f (h:Int):Nat):Int),((σ.count (h:Int):Nat):Int))
def LK (σ:AA Nd) (f:Int→Nat):List (Int×Int×Int):=Fe σ f (Ar σ)
def fdL (l:List (Int×Int×Int)):List Value:=l.flatMap fun x => [.int .i64 x.1,.int .i64 x.2.1,.int .i64 x.2.2]
theorem PN (a b:List (Int×Int×Int)):fdL (a++b)=fdL a++fdL b:=by simp[fdL]
theorem E4 (σ:AA Nd) (f:Int→Nat) (l:List Nat) (h:Nat):Fe σ f (l ++ [h])=Fe σ f l++(if ((σ.count (h:Int):Nat):Int)=(f (h:Int):Nat) then [] else [((h:Int),((f (h:Int):Nat):Int),((σ.count (h:Int):Nat):Int))]):=by
 unfold Fe;rw[List.filterMap_append]
 congr 1
 by_cases e:((σ.count (h:Int):Nat):Int)=(f (h:Int):Nat)
 · simp[e]
 simp[e]
theorem PX (σ:AA Nd) (f:Int→Nat) (l:List Nat):(Fe σ f l).length≤l.length:=List.length_filterMap_le _ _
theorem PR {σ:AA Nd} {x:Int} (h:Ap σ x=0):x=0∨has σ x=true:=by
 by_cases h0:x=0
 · exact .inl h0
 right;cases hh:has σ x with
 | true=>rfl
 | false=>unfold Ap at h;simp[h0,hh] at h
theorem Ls {σ:AA Nd} {R:List Int} (h:chk σ R=0):R.length≤64∧∀x∈R,x=0∨has σ x=true:=by
 unfold chk at h;by_cases hl:64<R.length
 · rw[if_pos hl] at h;cases h
 rw[if_neg hl] at h;exact⟨by omega,fun x hx=>PR (Gy.1 h x hx)⟩
section
variable {w : World} {s : Nat} {F : Nat→Prop} {σ : AA Nd} {ao : Option Addr} {R : List Int}
theorem Pk (h:At w s F σ) (G:Good σ) (cap:Nat) (hR:C8 w ao R) (hc:chk σ R=0) :
 Calls Tryz.prog 67 #[.pointer (some ⟨s,0,none⟩),.slice ao R.length cap] w fun e w'=>∃v k,e=.returned (.tuple #[v,.int .i64 0])∧Wanting σ R k.todo.length k∧w'.ownsRow w.heap.size 245 3 v (LK σ k.cnt).length (fdL (LK σ k.cnt))∧Adds w w':=by
 obtain⟨hl,hh⟩:=Ls hc;have hk:=N0 h cap hR (by omega);rw[hc] at hk;have hwt:=fun w1 (a:Adds w w1)=>O5 (h.adds a) G cap (hR.adds a) hl hh
 have hhd:=fun w1 (a:Adds w w1)=>PH (h.adds a)
 have hct:=fun w1 (a:Adds w w1) x=>LC (h.adds a) x
 have hhs:(Ar σ).length≤65536:=by
  have h2:(Ar σ).length≤σ.slots.length:=AA.ID σ _;have h3:=G.sound.wf.len;have h4:=G.sound.wf.room;omega
 obtain⟨n,hn⟩:∃n,n=R.length:=⟨_,rfl⟩
 obtain⟨L,hL⟩:∃L,L=(Ar σ).length:=⟨_,rfl⟩
 rw[←hn] at hk hwt ⊢;rw[←hL] at hhs hhd;obtain⟨i0,z0,p1,p2,p3,p4,p5⟩:=XY;have HI:=(hIq p1 (aIq p2 (aIq p3 (aIq p4 p5))))
 have HK:=(hIq hk (aIq hwt (aIq hhd hct)))
 have HL:=(hIq hL G.sound)
 clear hk hwt hhd hct hL hn hR h hl hh hc p1 p2 p3 p4 p5;go_enter Tryz.func67,Tryz.ntmps67;go_wp2_with fail;refine HK.out.1.mono ?_;rintro e w1 ⟨rfl,a1⟩;have HW:=Lib.hid (HK.out.2.1 w1 a1);have A1:=Lib.hid a1;clear a1;go_wp2_with fail;refine HW.out.mono ?_;rintro e w2 ⟨m,n2,k,rfl,hk,hcn,hn2,hm,a2⟩;have A2:=Lib.hid (A1.out.trans a2 (fun _=>fEq));have HHD:=Lib.hid (HK.out.2.2.1 w2 A2.out);have HC:=(hIq hk hcn)
 clear hk hcn hn2 hm a2 HW A1;go_wp2_with fail;refine HHD.out.mono ?_;rintro e w3 ⟨v,rfl,o3,a3⟩;obtain⟨vo,vc,rfl⟩:=Ad o3
 have hi3:C8 w3 vo ((Ar σ).map fun n:Nat=>(n:Int)):=by
  have:ints (Ar σ)=Cf ((Ar σ).map fun n:Nat=>(n:Int)):=by simp[ints,Cf,List.map_map]
  rw[this] at o3;exact(C8.own o3).1
 have A3:=(hIq (A2.out.trans a3 (fun _=>fEq)) (aIq hi3 (HC.out.2.Af a3 id)))
 clear a3 hi3 o3 HHD A2;go_wp2;have HC':=Lib.hid HC.out.1;have HCT:=Lib.hid HK.out.2.2.2;clear HK HC;go_loopg [8,10,11,24] L (fun g s8 s10 s11 s24 wr=>∃(i len:Nat) (qo:Option Addr) (qc:Nat),s24=.int .i64 i∧i+g=L∧s8=.slice qo len qc∧len=(Fe σ k.cnt ((Ar σ).take i)).length∧wr.ownsRow w3.heap.size 245 3 (.slice qo len qc) len (fdL (Fe σ k.cnt ((Ar σ).take i)))∧Adds w3 wr)
 case atStart=>exact⟨0,0,none,0,rfl,by omega,rfl,rfl,World.ownsRow_nil _ _ _ _,Ch.refl _ _⟩
 obtain⟨i,len,qo,qc,rfl,hi,rfl,hlen,hown,hA⟩:=hrel
 have hle:len≤65536:=by
  have h1:=PX σ k.cnt ((Ar σ).take i);rw[List.length_take] at h1;have:=HL.out.1;omega
 have HA:=(hIq hA (aIq hown hlen))
 clear hA hown hlen;by_cases hin:i=L
 · subst hin
   go_wp2;go_ret2;refine⟨_,k,rfl,HC'.out,?_,A3.out.1.trans HA.out.1 (fun _=>fEq)⟩;have h9:(Ar σ).take i=Ar σ:=List.take_of_length_le (Nat.le_of_eq HL.out.1.symm);have h1:=HA.out.2.1;have h2:=HA.out.2.2;rw[h9] at h1 h2;rw[h2] at h1;rw[←h2] at h1;unfold LK;rw[←h2];exact h1.base (fun j hj=>Nat.le_trans A3.out.1.size (h1.lt j hj).1)
 have hi1:(i:Int)<(L:Int):=by omega
 have hi2:i<L:=by omega
 obtain⟨g,rfl⟩:∃g,gk=g+1:=⟨gk-1,by omega⟩
 obtain⟨x,hx⟩:∃x,(Ar σ)[i]?=some x:=⟨_,List.getElem?_eq_getElem (by have:=HL.out.1;omega)⟩
 obtain⟨g1,o1,rfl,q1⟩:=A3.out.2.1 i (x:Int) (by rw[List.getElem?_map,hx];rfl);have q1':=HA.out.1.cell q1 id;obtain⟨c,hc⟩:∃c:Int,c=((σ.count (x:Int):Nat):Int):=⟨_,rfl⟩
 obtain⟨f,hf⟩:∃f:Int,f=((k.cnt (x:Int):Nat):Int):=⟨_,rfl⟩
 have hxs:(0:Int)≤(x:Int)∧(x:Int)≤65536:=by
  obtain⟨y,hy⟩:=(B9 (x:Int)).2 ⟨x,List.mem_of_getElem? hx,rfl⟩;have:=MB HL.out.2.wf hy;omega
 have hlk:=(A3.out.2.2.Af HA.out.1 id).look (x:=(x:Int)) (OA hxs.1 hxs.2);have hct:=HCT.out wr (A3.out.1.trans HA.out.1 (fun _=>fEq)) (x:Int);rw[←hc] at hct;rw[←hf] at hlk;have HX:=(hIq hx (aIq hc hf))
 have HCX:=Lib.hid hct;have hsn:(Ar σ).take (i+1)=(Ar σ).take i ++ [x]:=by rw[List.take_add_one,hx];rfl
 have HSN:=Lib.hid hsn;clear hx q1 hct hc hf hsn hxs;by_cases hcf:c=f
 · have hcb:(c != f)=false:=by simpa using hcf
   have HCF:=Lib.hid hcf;clear hcf;go_wp2_with fail;refine HCX.out.mono ?_;rintro e w4 ⟨rfl,rfl⟩;go_wp2;go_roundg g
   case measure=>omega
   refine⟨i+1,len,qo,qc,by simp,by omega,rfl,?_,?_,HA.out.1⟩
   · rw[HSN.out,E4,if_pos (by rw[←HX.out.2.1, ←HX.out.2.2];exact HCF.out),List.append_nil];exact HA.out.2.2
   rw[HSN.out,E4,if_pos (by rw[←HX.out.2.1, ←HX.out.2.2];exact HCF.out),List.append_nil];exact HA.out.2.1
 have hcb:(c != f)=true:=by simpa using hcf
 have HCF:=Lib.hid hcf;have HOW:=Lib.hid HA.out.2.1;clear hcf;go_wp2_with fail;refine HCX.out.mono ?_;rintro e w4 ⟨rfl,rfl⟩;have HSZ:=Lib.hid (HA.out.1.size)
 go_wp2_with (first
  | fail
  | (at_builtin;refine wpList_append_own _ rfl _ _ 139 rfl w3.heap.size 245 i0 z0 3 24 Tryz.underlying139 HI.out.1 HI.out.2.1 HI.out.2.2.1 HI.out.2.2.2.1 HI.out.2.2.2.2 (by decide) (.slice qo len qc) len (fdL (Fe σ k.cnt ((Ar σ).take i))) rfl (HOW.out.alloc _) ⟨wr.heap.size,0,none⟩ 1 1 [.int .i64 (x:Int),.int .i64 f,.int .i64 c] rfl rfl (CX (cs:=#[.int .i64 (x:Int),.int .i64 f,.int .i64 c]) (t:=245) (fr:=(0,0)) (An _ _ _ (by simp))) (by simp[Value.oneCell']) (by unfold maxLen;omega) (by omega) (by have:=HSZ.out;simp;omega) ?_;intro v' w4 own' grow' nil';obtain⟨ro,rc,rfl⟩:=Ad own';have hA4:Adds w3 w4:=(HA.out.1.alloc _).grown grow' (fun k hk=>.inr (HOW.out.lt k hk).1);have H4:=(hIq own' hA4);clear own' grow' nil' hA4))
 go_roundg g
 case measure=>omega
 refine⟨i+1,len+1,ro,rc,by simp,by omega,rfl,?_,?_,H4.out.2⟩
 · rw[HSN.out,E4,if_neg (by rw[←HX.out.2.1, ←HX.out.2.2];exact HCF.out),List.length_append, ←HA.out.2.2];rfl
 rw[HSN.out,E4,if_neg (by rw[←HX.out.2.1, ←HX.out.2.2];exact HCF.out),PN];have:=H4.out.1;rw[←HX.out.2.1, ←HX.out.2.2];exact this
end
end Go.Proofs.YtngbdbpofifimaaGreat.Store
namespace Go.Proofs.YtngbdbpofifimaaGreat.Store
open Go.RowKit Go.Sort Go.Proofs.YtngbdbpofifimaaGreat.ShaW Go.Proofs.YtngbdbpofifimaaGreat.Path
def QH (f:Int→Nat) (l:List Nat):List Int:=(l.filter fun h:Nat=>decide (f (h:Int)=0)).map fun h:Nat=>(h:Int)

def leI (x y:Int):Bool:=decide (x≤y)
theorem La {l l':List Int} (h:l.Perm l'):l.mergeSort leI=l'.mergeSort leI:=by
 have tr:∀a b c:Int,leI a b=true→leI b c=true→leI a c=true:=fun a b c h1 h2=>by simp only[leI,decide_eq_true_eq] at *;omega
 have tt:∀a b:Int,(leI a b||leI b a)=true:=fun a b=>by simp only[leI,Bool.or_eq_true,decide_eq_true_eq];omega
 refine List.Perm.eq_of_pairwise (le:=fun a b=>leI a b=true) (fun a b _ _ h1 h2=>?_) (List.pairwise_mergeSort tr tt l) (List.pairwise_mergeSort tr tt l') (((List.mergeSort_perm l leI).trans h).trans (List.mergeSort_perm l' leI).symm);simp only[leI,decide_eq_true_eq] at h1 h2;omega
def KJ (D0:DataW Value) (left:Lit→Bool) (ss:List Int):Prop:=ss.Nodup∧∀x,x∈ss↔(Maps.has D0 (ky x)=true∧left (ky x)=false)
theorem KJ.start (D0:DataW Value):KJ D0 (Maps.has D0) []:=⟨List.nodup_nil,fun x=>by cases Maps.has D0 (ky x)<;>simp⟩
theorem KJ.step {D0:DataW Value} {left:Lit→Bool} {ss:List Int} (h:KJ D0 left ss) {x:Int} {y:DataW Value} (hlk:left (ky x)=true) (hat:∀zd,D0.atKey (ky x) zd=y):KJ D0 (fun z=>left z && !z.sameKey (ky x)) (ss ++ [x]):=by
 have hhas:Maps.has D0 (ky x)=true:=Maps.has_true_of_atKey hat;have hnew:x∉ss:=fun hx=>by have:=((h.2 x).1 hx).2;rw[hlk] at this;cases this
 refine⟨List.nodup_append.2 ⟨h.1,by simp,fun a ha b hb=>by simp at hb;subst hb;exact fun e=>hnew (e▸ha)⟩,fun y=>?_⟩;by_cases hy:y=x
 · subst hy;simp[hhas,ky,Lit.sameKey]
 have h1:(ky y).sameKey (ky x)=false:=by simp[Lit.sameKey,hy]
 rw[List.mem_append,List.mem_singleton,h.2 y]
 show _↔Maps.has D0 (ky y)=true∧(left (ky y) && !(ky y).sameKey (ky x))=false
 rw[h1];simp[hy]
theorem TC {w:World} {base:Nat} {q:Value} {ss:List Int} (h:w.ownsRow base 3 1 q ss.length (Cf ss)) (hs:ss.length<4611686018427387904) :
 Calls Tryz.prog 152 #[q] w fun e w'=>e=.returned (.tuple #[])∧w'.ownsRow base 3 1 q ss.length (Cf (ss.mergeSort leI))∧w.grownBy w' q.ownBlock:=by
 rcases h.2 with⟨hnil,h0⟩|⟨g,cap,cur,rfl,hbase,hb,h1,h2,h3,h4⟩
 · subst hnil
   have hs0:ss = []:=List.eq_nil_of_length_eq_zero h0;subst hs0;refine(Any.sort_Ints_none Ot none 0 w).mono fun e w' hw=>?_
   obtain⟨he,rfl⟩:=hw;exact⟨he,by simpa[Cf] using World.ownsRow_nil w' base 3 1,⟨rfl,rfl,rfl,Nat.le_refl _,fun _ _ _=>rfl⟩⟩
 have hH:=holds_of_blockI hb (by simpa[Cf] using h4);refine(Any.sort_Ints Ot g 0 cap ss w hH (Array.getElem?_eq_some_iff.1 hb).1 hs).mono fun e w' ⟨he,n,os,hw⟩=>⟨he,?_,?_⟩
 · rw[hw]
   exact ownsRow_sortedI (by simp) hbase hb h1 h2 h3
 rw[hw];exact grownBy_sortedI _
section
variable {w : World} {s : Nat} {F : Nat→Prop} {σ : AA Nd} {ao : Option Addr} {R : List Int}
theorem Mr (h:At w s F σ) (G:Good σ) (cap:Nat) (hR:C8 w ao R) (hc:chk σ R=0) :
 Calls Tryz.prog 69 #[.pointer (some ⟨s,0,none⟩),.slice ao R.length cap] w fun e w'=>∃v k,e=.returned (.tuple #[v,.int .i64 0])∧Wanting σ R k.todo.length k∧w'.ownsRow w.heap.size 3 1 v k.todo.length (Cf (k.todo.mergeSort leI))∧Adds w w':=by
 obtain⟨hl,hh⟩:=Ls hc;have hk:=N0 h cap hR (by omega);rw[hc] at hk;have hwt:=fun w1 (a:Adds w w1)=>O5 (h.adds a) G cap (hR.adds a) hl hh
 obtain⟨n,hn⟩:∃n,n=R.length:=⟨_,rfl⟩
 rw[←hn] at hk hwt ⊢;obtain⟨i0,p1,p2,p3,p4⟩:=Ta;have HI:=(hIq p1 (aIq p2 (aIq p3 p4)))
 have HK:=(hIq hk hwt)
 have HGS:=Lib.hid G.sound;clear hk hwt hn hR h hl hh hc p1 p2 p3 p4;go_enter Tryz.func69,Tryz.ntmps69;go_wp2_with fail;refine HK.out.1.mono ?_;rintro e w1 ⟨rfl,a1⟩;have HW:=Lib.hid (HK.out.2 w1 a1);have A1:=Lib.hid a1;clear a1;go_wp2_with fail;refine HW.out.mono ?_;rintro e w2 ⟨m,n2,k,rfl,hk,hcn,hn2,hm,a2⟩;have A2:=Lib.hid (A1.out.trans a2 (fun _=>fEq));have hml:=hcn.lt;obtain⟨D,hown,hsz,hall⟩:=hcn.ex;obtain⟨N,hN⟩:∃N,N=k.todo.length:=⟨_,rfl⟩
 have hN6:N≤65536:=by rw[hN];exact hk.len HGS.out
 rw[←hN] at hsz;have HC:=(hIq hk (aIq hsz (aIq hall hN)))
 clear hk hcn hn2 hm a2 HW A1 hsz hall hN HK
 go_wp2_with (first
  | fail
  | (at_range;refine wpList_range_own _ rfl _ 241 rfl 3 3 Sg Tryz.underlying241 Nt m n2 D rfl hown ?_;intro w3 hrg0 hg0 hs0))
 try go_frame
 have hA0:Adds w2 w3:=(Ch.refl _ _).grown hg0 (fun _ h=>by cases h);rw[HC.out.2.1] at hrg0;have HR0:=(hIq hrg0 hA0)
 clear hrg0 hg0 hs0 hA0 hown
 go_loopg [7,8] N (fun g s7 s8 wr=>∃(left:Lit→Bool) (ss:List Int) (qo:Option Addr) (qc:Nat),s7=.slice qo ss.length qc∧wr.ranges Tryz.prog 3 Nt m w2.heap.size n2 D left g∧KJ D left ss ∧
  wr.ownsRow w2.heap.size 3 1 (.slice qo ss.length qc) ss.length (Cf ss)∧Adds w2 wr∧ss.length+g≤N)
 case atStart=>exact⟨_,[],none,0,rfl,HR0.out.1,KJ.start D,World.ownsRow_nil _ _ _ _,HR0.out.2,by simp⟩
 obtain⟨left,ss,qo,qc,rfl,hrg,hC,hown,hA,hcn⟩:=hrel;obtain⟨sl,hsl⟩:∃sl,sl=ss.length:=⟨_,rfl⟩
 rw[←hsl] at hown hcn ⊢;have hsl6:sl≤65536:=by omega
 have HCC:=(hIq hC (aIq hown (aIq hA (aIq hcn hsl))))
 clear hC hown hA HR0 hsl
 go_wp2_with (first
  | fail
  | (at_next;refine wpList_next_ranges_ii _ rfl _ rfl 3 3 .i64 .i64 Sg Tryz.underlying3 Tryz.underlying3 m w2.heap.size n2 D left _ rfl hrg ?_ ?_))
 · intro _ hl0
   have HL0:=Lib.hid hl0;clear hl0 hrg;have hso:=fun w3 (a:Adds wr w3)=>TC (w:=w3) (ss:=ss) (base:=w2.heap.size) (q:=.slice qo sl qc) (by have:=HCC.out.2.1;rw[HCC.out.2.2.2.2] at this;rw[HCC.out.2.2.2.2];exact a.owns this (fun _ _ h=>h)) (by have:=HCC.out.2.2.2.2;omega)
   rw[←HCC.out.2.2.2.2] at hso;have HSO:=Lib.hid hso;clear hso;go_wp2_with fail;refine(HSO.out _ (Ch.refl _ _)).mono ?_;rintro e w4 ⟨rfl,o3,g3⟩
   have H3:RowKit.Hid (w4.ownsRow w.heap.size 3 1 (.slice qo sl qc) k.todo.length (Cf (k.todo.mergeSort leI))∧Adds w w4):=Lib.hid (by
    have hp:ss.Perm k.todo:=by
     refine(List.perm_ext_iff_of_nodup HCC.out.1.1 HC.out.1.nodup).2 fun x=>?_
     rw[HCC.out.1.2 x,HL0.out,(HC.out.2.2.1 x).2,HC.out.1.mem x];simp
    have hll:sl=k.todo.length:=by rw[HCC.out.2.2.2.2,hp.length_eq]
    rw[La hp] at o3;refine⟨?_,A2.out.trans (HCC.out.2.2.1.grown g3 (fun j hj=>.inr ((HCC.out.2.1.lt j hj).1))) (fun _=>fEq)⟩;rw[←hll];exact o3.base (fun j hj=>Nat.le_trans A2.out.size (HCC.out.2.1.lt j hj).1))
   clear o3 g3;go_wp2;go_ret2;exact⟨_,k,rfl,HC.out.1,H3.out⟩
 intro x c w3' cnt2 hwx hwc hlk hat hrg2 hlt hg2 hs2 hen;have hA2:Adds w2 w3':=HCC.out.2.2.1.grown hg2 (fun k hk=>.inr (by cases hk;exact Nat.le_refl _))
 have own2:w3'.ownsRow w2.heap.size 3 1 (.slice qo sl qc) sl (Cf ss):=HCC.out.2.1.kept hg2 (by
  rcases hq:(Value.slice qo sl qc).ownBlock with _|k
  · exact .inl rfl
  exact .inr (fun e=>row_ne_iter HCC.out.2.1 hrg (by rw[hq];exact e.symm)))
 have hC2:=HCC.out.1.step hlk hat;have H2:=(hIq hA2 (aIq own2 (aIq hC2 (aIq hrg2 hlt))))
 clear hs2 hg2 hrg2 hlt hC2 own2 hA2 hrg hlk hat hwx hwc
 go_wp2_with (first
  | fail
  | (at_builtin;refine wpList_append_own _ rfl _ _ 61 rfl w2.heap.size 3 i0 (.int .i64 0) 1 8 Tryz.underlying61 HI.out.1 HI.out.2.1 HI.out.2.2.1 HI.out.2.2.2 rfl (by decide) (.slice qo sl qc) sl (Cf ss) rfl (H2.out.2.1.alloc _) ⟨w3'.heap.size,0,none⟩ 1 1 [.int .i64 x] rfl rfl (CX (cs:=#[.int .i64 x]) (t:=3) (fr:=(0,0)) (An _ _ _ (by simp))) (by simp[Value.oneCell']) (by unfold maxLen;omega) (by omega) (by have:=H2.out.1.size;simp;omega) ?_;intro v' w4 own' grow' nil'))
 obtain⟨vo,vc,rfl⟩:=Ad own'
 have H4:RowKit.Hid (w4.ranges Tryz.prog 3 Nt m w2.heap.size n2 D (fun z=>left z && !z.sameKey (ky x)) cnt2∧w4.ownsRow w2.heap.size 3 1 (.slice vo (sl+1) vc) (sl+1) (Cf ss ++ [.int .i64 x])∧Adds w2 w4):=Lib.hid ⟨
  ((H2.out.2.2.2.1.kept (row:=none) (World.grownBy_alloc w3' _ none) (by simp) (by simp)).kept grow' (row_ne_low H2.out.2.1 hml) (row_ne_iter H2.out.2.1 H2.out.2.2.2.1)),own',
  (H2.out.1.alloc _).grown grow' (fun k hk=>.inr ((H2.out.2.1.lt k hk).1))⟩
 clear own' grow' nil';go_wp2;go_roundg cnt2
 case measure=>exact H2.out.2.2.2.2
 refine⟨_,ss ++ [x],vo,vc,?_,H4.out.1,H2.out.2.2.1,?_,H4.out.2.2,?_⟩
 · rw[List.length_append, ←HCC.out.2.2.2.2];rfl
 · have:=H4.out.2.1
   rw[List.length_append, ←HCC.out.2.2.2.2];simpa[Cf] using this
 have h5:=H2.out.2.2.2.2;have h6:=HCC.out.2.2.2.1;rw[List.length_append, ←HCC.out.2.2.2.2];simp only[List.length_cons,List.length_nil];omega
end
end Go.Proofs.YtngbdbpofifimaaGreat.Store
