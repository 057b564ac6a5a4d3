/- Laws of the layers below. -/
import Derived.Test.YtngbdbpofifimaaGreatQm19
set_option maxHeartbeats 3200000
set_option maxRecDepth 100000
set_option linter.unusedVariables false
namespace Go.Proofs.YtngbdbpofifimaaGreat
open Go.RowKit
def Bz (l:List (Array Value)):List Value:=l.flatMap Array.toList
section
variable {n : Nat} {l : List (Array Value)} {i j : Nat} {a b : Array Value}
theorem EP (l m:List (Array Value)):Bz (l++m)=Bz l++Bz m:=by simp[Bz]
theorem I1 (a:Array Value):Bz [a]=a.toList:=by simp[Bz]
theorem ID:∀(l:List (Array Value)),(∀a∈l,a.size=n)→(Bz l).length=l.length*n
 | [],_=>by simp[Bz]
 | a::l,h=>by
  have ih:=ID l (fun x hx=>h x (List.mem_cons_of_mem _ hx));have h0:=h a (List.mem_cons_self ..);rw[show a::l = [a]++l from rfl,EP,I1,List.length_append,ih,Array.length_toList,h0,List.length_append,List.length_singleton,Nat.add_mul];omega
theorem Cj (h:∀a∈l,a.size=n) (hi:i≤l.length):(Bz (l.take i)).length=i*n:=by
 rw[ID (n:=n) _ (fun s hs=>h s (List.mem_of_mem_take hs)),List.length_take,Nat.min_eq_left hi]
theorem DN (hi:l[i]?=some a):Bz l=Bz (l.take i)++(a.toList++Bz (l.drop (i+1))):=by
 obtain⟨hlt,he⟩:=List.getElem?_eq_some_iff.1 hi
 conv=>lhs;rw[←List.take_append_drop i l,List.drop_eq_getElem_cons hlt,he]
 rw[EP,show a::l.drop (i+1) = [a]++l.drop (i+1) from rfl,EP,I1]
theorem Rj (h:∀a∈l,a.size=n) (hi:l[i]?=some a) (hj:j<n):(Bz l)[i*n+j]?=a[j]?:=by
 have hlt:=(List.getElem?_eq_some_iff.1 hi).1;have ha:=h a (List.mem_of_getElem? hi);have ht:=Cj h (i:=i) (by omega);rw[DN hi,List.getElem?_append_right (by omega),ht,show i*n+j-i*n=j by omega,List.getElem?_append_left (by rw[Array.length_toList];omega),Array.getElem?_toList]
theorem O7 (h:∀a∈l,a.size=n) (hi:l[i]?=some a):((Bz l).drop (i*n)).take n=a.toList:=by
 have hlt:=(List.getElem?_eq_some_iff.1 hi).1;have ha:=h a (List.mem_of_getElem? hi);have ht:=Cj h (i:=i) (by omega);rw[DN hi,List.drop_append_of_le_length (by omega),List.drop_eq_nil_of_le (by omega),List.nil_append,List.take_append_of_le_length (by rw[Array.length_toList];omega),List.take_of_length_le (by rw[Array.length_toList];omega)]
theorem QB (h:∀a∈l,a.size=n) (hi:l[i]?=some a) (hj:j<n) (v:Value):(Bz l).set (i*n+j) v=Bz (l.set i (a.setIfInBounds j v)):=by
 have hlt:=(List.getElem?_eq_some_iff.1 hi).1;have ha:=h a (List.mem_of_getElem? hi);have ht:=Cj h (i:=i) (by omega)
 rw[DN (l:=l.set i (a.setIfInBounds j v)) (i:=i) (a:=a.setIfInBounds j v) (by rw[List.getElem?_set_self hlt]),DN hi,List.set_append_right _ _ (by omega),ht,show i*n+j-i*n=j by omega,
  List.set_append_left _ _ (by rw[Array.length_toList];omega),Array.toList_setIfInBounds,List.take_set_of_le (Nat.le_refl _),List.drop_set_of_lt (Nat.lt_succ_self _)]
theorem IW (h:∀a∈l,a.size=n) (hi:i<l.length) (hb:b.size=n):splice (Bz l) (i*n) b.toList=Bz (l.set i b):=by
 have ha:l[i]?=some l[i]:=by simp[hi]
 have hs:=h l[i] (List.getElem_mem hi);have ht:=Cj h (i:=i) (by omega);rw[DN (l:=l.set i b) (i:=i) (a:=b) (by rw[List.getElem?_set_self hi]),DN ha,splice]
 have e1:List.take (i*n) (Bz (List.take i l)++(l[i].toList++Bz (List.drop (i+1) l)))=Bz (List.take i l):=by
  rw[List.take_append_of_le_length (by omega),List.take_of_length_le (by omega)]
 have e2:List.drop (i*n+b.toList.length) (Bz (List.take i l)++(l[i].toList++Bz (List.drop (i+1) l)))=Bz (List.drop (i+1) l):=by
  rw[List.drop_append,List.drop_eq_nil_of_le (by rw[ht];omega),List.nil_append,ht,Array.length_toList,hb,show i*n+n-i*n=n by omega,List.drop_append,List.drop_eq_nil_of_le (by rw[Array.length_toList];omega),List.nil_append,Array.length_toList,hs,Nat.sub_self,List.drop_zero]
 rw[e1,e2,List.take_set_of_le (Nat.le_refl _),List.drop_set_of_lt (Nat.lt_succ_self _),List.append_assoc]
end
end Go.Proofs.YtngbdbpofifimaaGreat
namespace Go.Proofs.YtngbdbpofifimaaGreat.Store
open Go.RowKit Go.Proofs.YtngbdbpofifimaaGreat.ShaW Go.Proofs.YtngbdbpofifimaaGreat.Path
structure Sp where
 kind:Nat
 d:Int
 key:List UInt8
 addr:Value
 value:List UInt8
 left:Int
 right:Int
 own:Int
 sides:Int
namespace Sp
def zero:Sp:=⟨0,0,Nd.z32,.slice none 0 0,[],0,0,0,0⟩
def cells (x:Sp):Array Value:=(.int .u8 (x.kind:Nat)::.int .i64 x.d::(x.key.map bv ++ [x.addr,.int .i64 x.left,.int .i64 x.right,.int .i64 x.own,.int .i64 x.sides])).toArray
structure Ok (x:Sp):Prop where
 key:x.key.length=32
 addr:∃ao len cap,x.addr=.slice ao len cap
 val:x.value.length≤1024
theorem BP:zero.Ok:=⟨rfl,⟨none,0,0,rfl⟩,by decide⟩
variable {x : Sp}
theorem Aj:x.cells.toList=.int .u8 (x.kind:Nat)::.int .i64 x.d::(x.key.map bv ++ [x.addr,.int .i64 x.left,.int .i64 x.right,.int .i64 x.own,.int .i64 x.sides]):=rfl
theorem AY (h:x.Ok):x.cells.size=39:=by simp[cells,h.key]
theorem cells_one (h:x.Ok):∀v∈x.cells.toList,v.oneCell'=true:=by
 obtain⟨ao,len,cap,ha⟩:=h.addr;intro v hv;rw[Aj] at hv;simp only[List.mem_cons,List.mem_append,List.mem_map,List.not_mem_nil,or_false] at hv;rcases hv with rfl|rfl|⟨b,_,rfl⟩|rfl|rfl|rfl|rfl|rfl
 · rfl
 · rfl
 · rfl
 · rw[ha];rfl
 · rfl
 · rfl
 · rfl
 rfl
theorem Ar:x.cells[0]?=some (.int .u8 (x.kind:Nat)):=rfl
theorem WE:x.cells[1]?=some (.int .i64 x.d):=rfl
theorem Fg (h:x.Ok) (i:Nat):x.cells[34+i]? = [x.addr,Value.int .i64 x.left,.int .i64 x.right,.int .i64 x.own,.int .i64 x.sides][i]?:=by
 rw[←Array.getElem?_toList,Aj,show 34+i=(32+i)+1+1 by omega,List.getElem?_cons_succ,List.getElem?_cons_succ,List.getElem?_append_right (by simp[h.key])];simp[h.key]
theorem Ge (h:x.Ok):x.cells[35]?=some (.int .i64 x.left):=Fg h 1
theorem E8 (h:x.Ok):x.cells[36]?=some (.int .i64 x.right):=Fg h 2
theorem EG (h:x.Ok):x.cells[37]?=some (.int .i64 x.own):=Fg h 3
theorem GS (h:x.Ok):x.cells[38]?=some (.int .i64 x.sides):=Fg h 4
def entry (x:Sp):Array Value:=(x.key.map bv ++ [x.addr]).toArray
theorem NH (h:x.Ok):x.cells.extract 2 (2+33)=x.entry:=by
 apply Array.ext';simp only[Array.toList_extract,List.extract,Aj,entry];simp only[show 2+33-2=33 by rfl,List.drop_succ_cons,List.drop_zero];rw[List.take_append,List.take_of_length_le (by simp[h.key])];simp[h.key]
theorem Ig (h:x.Ok) (n:Int):x.cells.setIfInBounds 37 (.int .i64 n)=({ x with own:=n }:Sp).cells:=by
 apply Array.ext';simp only[Array.toList_setIfInBounds,Aj];simp only[show 37=35+1+1 by rfl,List.set_cons_succ];rw[List.set_append_right _ _ (by simp[h.key]),List.length_map,h.key];rfl
theorem LW (h:x.Ok) (n:Int):x.cells.setIfInBounds 38 (.int .i64 n)=({ x with sides:=n }:Sp).cells:=by
 apply Array.ext';simp only[Array.toList_setIfInBounds,Aj];simp only[show 38=36+1+1 by rfl,List.set_cons_succ];rw[List.set_append_right _ _ (by simp[h.key]),List.length_map,h.key];rfl
end Sp
structure Rs where
 space:Nat
 spots:List Sp
 free:List Nat
def Rs.sp (ρ:Rs) (h:Int):Sp:=if 1≤h then (match ρ.spots[(h-1).toNat]? with|some x=>if x.kind=0 then Sp.zero else x|none=>Sp.zero) else Sp.zero
def Rs.has (ρ:Rs) (h:Int):Bool:=decide ((ρ.sp h).kind≠0)
def Rs.setAt (ρ:Rs) (m:Nat) (x:Sp):Rs := { ρ with spots:=ρ.spots.set m x }
def RC (s:Nd×Nat) (x:Sp):Prop :=
 (s.2=0∧x=Sp.zero)∨(s.2≠0∧x.kind=s.1.kind∧x.left=s.1.left∧x.right=s.1.right∧x.value=s.1.value∧(s.1.kind=1→x.key=s.1.key)∧(s.1.kind=2→x.d=s.1.depth)∧x.own=s.1.held∧x.own+x.sides=s.2)
structure Lk (σ:AG Nd) (ρ:Rs):Prop where
 space:ρ.space=σ.room
 free:ρ.free=σ.free
 len:ρ.spots.length=σ.slots.length
 slot:∀(m:Nat) s x,σ.slots[m]?=some s→ρ.spots[m]?=some x→RC s x
section
variable {σ : AG Nd} {ρ : Rs} {h : Int}
theorem Pf (G:Good σ) {x:Nd×Nat} (hx:σ.get? h=some x):x.1.kind=1∨x.1.kind=2:=by
 by_cases e:x.1.kind=2
 · exact .inr e
 exact .inl (G.fit.leaf (Bl hx) e).1
theorem Lk.some (L:Lk σ ρ) (G:Good σ) {s:Nd×Nat} (hs:σ.get? h=Option.some s):∃(m:Nat) (x:Sp),h=(m:Int)+1∧m<σ.slots.length∧σ.slots[m]?=Option.some s∧ρ.spots[m]?=Option.some x∧s.2≠0∧ρ.sp h=x∧x.kind=s.1.kind∧x.kind≠0∧x.left=s.1.left∧x.right=s.1.right∧x.value=s.1.value∧(s.1.kind=1→x.key=s.1.key)∧(s.1.kind=2→x.d=s.1.depth)∧x.own=s.1.held∧x.own+x.sides=s.2:=by
 obtain⟨m,rfl,hm,h0,hlt⟩:=AG.Ac hs;have hlr:m<ρ.spots.length:=by rw[L.len];exact hlt
 have hx:ρ.spots[m]?=Option.some ρ.spots[m]:=List.getElem?_eq_getElem hlr;have hk:s.1.kind≠0:=by rcases Pf G hs with e|e<;>omega
 rcases L.slot m s _ hm hx with⟨e,_⟩|⟨_,h1,h2,h3,h4,h5,h6,h7,h8⟩
 · exact absurd e h0
 refine⟨m,_,rfl,hlt,hm,hx,h0,?_,h1,by omega,h2,h3,h4,h5,h6,h7,h8⟩;unfold Rs.sp;rw[if_pos (by omega),show((m:Int)+1-1).toNat=m by omega,hx];simp only;rw[if_neg (by omega)]
theorem Lk.none (L:Lk σ ρ) (hs:σ.get? h=Option.none):ρ.sp h=Sp.zero:=by
 rcases AG.LX hs with h1|⟨m,rfl,h2⟩
 · unfold Rs.sp;rw[if_neg (by omega)]
 unfold Rs.sp;rw[if_pos (by omega),show((m:Int)+1-1).toNat=m by omega];rcases h2 with h2|⟨v,hv⟩
 · rw[List.getElem?_eq_none (by rw[L.len];exact h2)]
 have hlt:=(List.getElem?_eq_some_iff.1 hv).1;have hlr:m<ρ.spots.length:=by rw[L.len];exact hlt
 have hx:ρ.spots[m]?=Option.some ρ.spots[m]:=List.getElem?_eq_getElem hlr;rw[hx];rcases L.slot m _ _ hv hx with⟨_,e⟩|⟨e,_⟩
 · simp only[e];rfl
 exact absurd rfl e
theorem Lk.has (L:Lk σ ρ) (G:Good σ) (h:Int):ρ.has h=Store.has σ h:=by
 unfold Rs.has;cases hs:σ.get? h with
 | none=>rw[L.none hs,Dz hs];rfl
 | some s =>
  obtain⟨m,x,_,_,_,_,_,e,_,h0,_⟩:=L.some G hs;rw[e,CF hs];simpa using h0
theorem Lk.kind (L:Lk σ ρ) (G:Good σ) (h:Int):(ρ.sp h).kind=(nd σ h).kind:=by
 cases hs:σ.get? h with
 | none=>rw[L.none hs,B9 hs];rfl
 | some s =>
  obtain⟨m,x,_,_,_,_,_,e,h1,_⟩:=L.some G hs;rw[e,Ap hs,h1]
theorem Lk.left (L:Lk σ ρ) (G:Good σ) (h:Int):(ρ.sp h).left=(nd σ h).left:=by
 cases hs:σ.get? h with
 | none=>rw[L.none hs,B9 hs];rfl
 | some s =>
  obtain⟨m,x,_,_,_,_,_,e,_,_,h1,_⟩:=L.some G hs;rw[e,Ap hs,h1]
theorem Lk.right (L:Lk σ ρ) (G:Good σ) (h:Int):(ρ.sp h).right=(nd σ h).right:=by
 cases hs:σ.get? h with
 | none=>rw[L.none hs,B9 hs];rfl
 | some s =>
  obtain⟨m,x,_,_,_,_,_,e,_,_,_,h1,_⟩:=L.some G hs;rw[e,Ap hs,h1]
theorem Lk.value (L:Lk σ ρ) (G:Good σ) (h:Int):(ρ.sp h).value=(nd σ h).value:=by
 cases hs:σ.get? h with
 | none=>rw[L.none hs,B9 hs];rfl
 | some s =>
  obtain⟨m,x,_,_,_,_,_,e,_,_,_,_,h1,_⟩:=L.some G hs;rw[e,Ap hs,h1]
theorem Lk.own (L:Lk σ ρ) (G:Good σ) (h:Int):(ρ.sp h).own=(nd σ h).held:=by
 cases hs:σ.get? h with
 | none=>rw[L.none hs,B9 hs];rfl
 | some s =>
  obtain⟨m,x,_,_,_,_,_,e,_,_,_,_,_,_,_,h1,_⟩:=L.some G hs;rw[e,Ap hs,h1]
theorem Lk.depth (L:Lk σ ρ) (G:Good σ) (h:Int):(if (ρ.sp h).kind=2 then (ρ.sp h).d else -1)=if (nd σ h).kind=2 then (nd σ h).depth else -1:=by
 cases hs:σ.get? h with
 | none=>rw[L.none hs,B9 hs];rfl
 | some s =>
  obtain⟨m,x,_,_,_,_,_,e,h1,_,_,_,_,_,h2,_,_⟩:=L.some G hs;rw[e,Ap hs,h1];by_cases hk:s.1.kind=2
  · rw[if_pos hk,if_pos hk,h2 hk]
  rw[if_neg hk,if_neg hk]
theorem Lk.new (n:Nat):Lk ⟨n,[],[]⟩ ⟨n,[],[]⟩:=⟨rfl,rfl,rfl,fun m s x hs=>by simp at hs⟩
theorem Lk.set (L:Lk σ ρ) {m:Nat} {s:Nd×Nat} {x:Sp} (hx:RC s x):Lk { σ with slots:=σ.slots.set m s } { ρ with spots:=ρ.spots.set m x }:=by
 refine⟨L.space,L.free,by simp[L.len],fun j t y ht hy=>?_⟩;simp only at ht hy;by_cases e:m=j
 · subst e
   have h1:=(List.getElem?_eq_some_iff.1 ht).1;rw[List.length_set] at h1;rw[List.getElem?_set_self h1] at ht;rw[List.getElem?_set_self (by rw[L.len];exact h1)] at hy;cases ht;cases hy;exact hx
 rw[List.getElem?_set_ne e] at ht hy;exact L.slot j t y ht hy
theorem Lk.push (L:Lk σ ρ) {s:Nd×Nat} {x:Sp} (hx:RC s x):Lk { σ with slots:=σ.slots ++ [s] } { ρ with spots:=ρ.spots ++ [x] }:=by
 refine⟨L.space,L.free,by simp[L.len],fun j t y ht hy=>?_⟩;simp only at ht hy;by_cases e:j<σ.slots.length
 · rw[List.getElem?_append_left e] at ht
   rw[List.getElem?_append_left (by rw[L.len];exact e)] at hy;exact L.slot j t y ht hy
 rw[List.getElem?_append_right (by omega)] at ht;rw[List.getElem?_append_right (by rw[L.len];omega),L.len] at hy;obtain⟨h1,h2⟩:=List.getElem?_eq_some_iff.1 ht;have h3:j-σ.slots.length=0:=by simp at h1;omega
 rw[h3] at ht hy;simp at ht hy;subst ht hy;exact hx
end
structure Rs.Vs (ρ:Rs):Prop where
 space:1≤ρ.space∧ρ.space≤65536
 len:ρ.spots.length≤ρ.space
 free:∀n∈ρ.free,1≤n∧n≤ρ.spots.length
 flen:ρ.free.length≤ρ.spots.length
 nums:∀x∈ρ.spots,x.Ok∧(0≤x.own∧x.own≤2147483648)∧(0≤x.sides∧x.sides≤2147483648)
def RAt (w:World) (b:Nat) (F:Nat→Prop) (ρ:Rs):Prop :=
 ρ.Vs∧∃vs vf,w.heap[b]?=some (.cells #[.bool true,.int .i64 (ρ.space:Nat),vs,vf] 319 (0,0)) ∧
  w.ownsRow 0 262 39 vs ρ.spots.length (Bz (ρ.spots.map Sp.cells))∧w.ownsRow 0 3 1 vf ρ.free.length (ints ρ.free) ∧
  (∀x∈ρ.spots,Bytes w x.addr x.value∧∀k,x.addr.ownBlock=some k→F k∧k≠b∧vs.ownBlock≠some k∧vf.ownBlock≠some k) ∧
  F b∧(∀k,vs.ownBlock=some k→F k∧k≠b)∧(∀k,vf.ownBlock=some k→F k∧k≠b∧vs.ownBlock≠some k)∧(∀k,F k→k<w.heap.size)
def RMoved (w w':World) (b:Nat) (F:Nat→Prop) (ρ:Rs):Prop:=∃F',RAt w' b F' ρ∧Ch F w w'∧∀k,F' k→F k∨w.heap.size≤k
section
variable {w w' : World} {b : Nat} {F : Nat→Prop} {ρ : Rs}
theorem RAt.Ae {C:Nat→Prop} (h:RAt w b F ρ) (hc:Ch C w w') (hd:∀k,F k→¬C k):RAt w' b F ρ:=by
 obtain⟨h0,vs,vf,h1,h2,h3,h4,h5,h6,h7,h8⟩:=h;exact⟨h0,vs,vf,hc.row h1 (hd b h5),hc.owns h2 (fun k hk=>hd k (h6 k hk).1),hc.owns h3 (fun k hk=>hd k (h7 k hk).1),fun x hx=>⟨(h4 x hx).1.Ae hc (fun k hk=>hd k ((h4 x hx).2 k hk).1),(h4 x hx).2⟩,h5,h6,h7,fun k hk=>Nat.lt_of_lt_of_le (h8 k hk) hc.size⟩
theorem RAt.adds (h:RAt w b F ρ) (a:AN w w'):RAt w' b F ρ:=h.Ae a (fun _ _ h=>h)
theorem RMoved.same (h:RAt w b F ρ) (a:AN w w'):RMoved w w' b F ρ:=⟨F,h.adds a,a.mono (fun _ _ h=>h.elim),fun k hk=>.inl hk⟩
theorem RMoved.from {w0:World} (a:AN w0 w) (h:RMoved w w' b F ρ):RMoved w0 w' b F ρ:=by
 obtain⟨F1,h1,h2,h3⟩:=h;exact⟨F1,h1,(a.mono (G:=F) (fun _ _ h=>h.elim)).trans h2 (fun k hk=>.inl hk),fun k hk=>(h3 k hk).elim .inl (fun h=>.inr (Nat.le_trans a.size h))⟩
theorem Dy (h:RAt w b F ρ) {m:Nat} {x:Sp} (hx:ρ.spots[m]?=some x) :
 ∃g cap cur vf,w.heap[b]?=some (.cells #[.bool true,.int .i64 (ρ.space:Nat),.slice (some ⟨g,0,none⟩) ρ.spots.length cap,vf] 319 (0,0)) ∧
  w.heap[g]?=some (.cells cur 262 (0,0))∧ρ.spots.length≤cap∧cap≤maxLen∧cur.size=cap*39∧cur.toList.take (ρ.spots.length*39)=Bz (ρ.spots.map Sp.cells)∧m<ρ.spots.length ∧
  x.Ok∧(∀j v,j<39→x.cells[j]?=some v→cur[m*39+j]?=some v)∧cur.extract (m*39) (m*39+39)=x.cells∧F g∧g≠b∧m*39+39≤cur.size:=by
 obtain⟨h0,vs,vf,h1,h2,h3,h4,h5,h6,h7,h8⟩:=h;have hm:=(List.getElem?_eq_some_iff.1 hx).1;obtain⟨g,cap,cur,rfl,hg,hc1,hc2,hc3,hc4⟩:=Bq h2 (by omega);have hok:x.Ok:=(h0.nums x (List.mem_of_getElem? hx)).1
 have hsz:∀a∈ρ.spots.map Sp.cells,a.size=39:=fun a ha=>by
  obtain⟨y,hy,rfl⟩:=List.mem_map.1 ha;exact Sp.AY (h0.nums y hy).1
 have hxm:(ρ.spots.map Sp.cells)[m]?=some x.cells:=by rw[List.getElem?_map,hx];rfl
 have hle:(m+1)*39≤ρ.spots.length*39:=Nat.mul_le_mul_right _ hm;refine⟨g,cap,cur,vf,h1,hg,hc1,hc2,hc3,hc4,hm,hok,fun j v hj hv=>?_,?_,(h6 g rfl).1,(h6 g rfl).2,by rw[hc3];omega⟩
 · exact Dx hc4 (by rw[Rj hsz hxm hj];exact hv)
 apply Array.ext';have:=O7 hsz hxm;rw[←hc4] at this;rw[←this,Array.toList_extract,List.extract,show m*39+39-m*39=39 by omega,List.drop_take,List.take_take,Nat.min_eq_left (by omega)]
theorem RAt.head (h:RAt w b F ρ):∃ao cap vf,w.heap[b]?=some (.cells #[.bool true,.int .i64 (ρ.space:Nat),.slice ao ρ.spots.length cap,vf] 319 (0,0)):=by
 obtain⟨h0,vs,vf,h1,h2,_⟩:=h;obtain⟨ao,cap,rfl⟩:=Am h2;exact⟨ao,cap,vf,h1⟩
theorem Cd (h:RAt w b F ρ):Calls Tryz.prog 167 #[.pointer (some ⟨b,0,none⟩)] w fun e w'=>e=.returned (.bool false)∧w=w':=by
 obtain⟨ao,cap,vf,hb⟩:=h.head;have c0:=AH hb (i:=0) rfl;clear hb h;go_enter Tryz.func167,Tryz.ntmps167;go_wp2;go_ret;exact⟨rfl,rfl⟩
theorem Rs.Im (ρ:Rs) {n:Int} (h:n<1∨(ρ.spots.length:Int)<n):ρ.sp n=Sp.zero:=by
 unfold Rs.sp;rcases h with h|h
 · rw[if_neg (by omega)]
 by_cases h1:1≤n
 · rw[if_pos h1,List.getElem?_eq_none (by omega)]
 rw[if_neg h1]
theorem Rs.La (ρ:Rs) {m:Nat} {x:Sp} (h:ρ.spots[m]?=some x):ρ.sp ((m:Int)+1)=if x.kind=0 then Sp.zero else x:=by
 unfold Rs.sp;rw[if_pos (by omega),show((m:Int)+1-1).toNat=m by omega,h]
theorem Rs.parts (ρ:Rs) (n:Int):(n<1∨(ρ.spots.length:Int)<n)∨∃(m:Nat) (x:Sp),n=(m:Int)+1∧m<ρ.spots.length∧ρ.spots[m]?=some x:=by
 by_cases h:n<1∨(ρ.spots.length:Int)<n
 · exact .inl h
 have hlt:(n-1).toNat<ρ.spots.length:=by omega
 exact .inr ⟨(n-1).toNat,ρ.spots[(n-1).toNat],by omega,hlt,List.getElem?_eq_getElem hlt⟩
theorem FX (h:RAt w b F ρ) (n:Int):Calls Tryz.prog 168 #[.pointer (some ⟨b,0,none⟩),.int .i64 n] w fun e w'=>e=.returned (.bool (ρ.has n))∧w=w':=by
 have hn:=Cd h;have hl:=h.1.len;have hs:=h.1.space;have HN:=Lib.hid hn;clear hn;rcases ρ.parts n with hout|⟨m,x,rfl,hm,hx⟩
 · have hz:ρ.has n=false:=by unfold Rs.has;rw[ρ.Im hout];rfl
   rw[hz];obtain⟨ao,cap,vf,hb⟩:=h.head;have c2:=AH hb (i:=2) rfl;obtain⟨L,hL⟩:∃L,L=ρ.spots.length:=⟨_,rfl⟩
   rw[←hL] at c2 hout;clear hb h hz hL;by_cases h1:n<1
   · have d1:decide ((1:Int)≤n)=false:=decide_eq_false (by omega)
     clear hout;go_enter Tryz.func168,Tryz.ntmps168;go_wp2_with fail;refine HN.out.mono ?_;rintro e w1 ⟨rfl,rfl⟩;go_wp2;go_ret;exact⟨rfl,rfl⟩
   have d1:decide ((1:Int)≤n)=true:=decide_eq_true (by omega);have d2:decide (n≤(L:Int))=false:=decide_eq_false (by omega);clear hout;go_enter Tryz.func168,Tryz.ntmps168;go_wp2_with fail;refine HN.out.mono ?_;rintro e w1 ⟨rfl,rfl⟩;go_wp2;go_ret;exact⟨rfl,rfl⟩
 obtain⟨g,cap,cur,vf,hb,hg,q1,q2,q3,q4,q5,hok,hat,hex,_⟩:=Dy h hx;have c2:=AH hb (i:=2) rfl;have ck:=AH hg (i:=m*39) (hat 0 _ (by omega) Sp.Ar)
 have hhas:ρ.has ((m:Int)+1)=decide (x.kind≠0):=by
  unfold Rs.has;rw[ρ.La hx];by_cases e:x.kind=0
  · rw[if_pos e,e];rfl
  rw[if_neg e]
 rw[hhas];obtain⟨L,hL⟩:∃L,L=ρ.spots.length:=⟨_,rfl⟩
 rw[←hL] at c2 hm hl;obtain⟨kd,hkd⟩:∃kd,kd=x.kind:=⟨_,rfl⟩
 rw[←hkd] at ck ⊢;have d1:decide ((1:Int)≤(m:Int)+1)=true:=decide_eq_true (by omega);have d2:decide ((m:Int)+1≤(L:Int))=true:=decide_eq_true (by omega);have hml:m≤65535:=by omega
 clear hb h hL hkd hhas hg q1 q2 q3 q4 q5 hok hat hex hx;by_cases h0:kd=0
 · subst h0
   go_enter Tryz.func168,Tryz.ntmps168;go_wp2_with fail;refine HN.out.mono ?_;rintro e w1 ⟨rfl,rfl⟩;go_wp2;go_ret;exact⟨rfl,rfl⟩
 have h0':¬((kd:Nat):Int)=0:=by omega
 go_enter Tryz.func168,Tryz.ntmps168;go_wp2_with fail;refine HN.out.mono ?_;rintro e w1 ⟨rfl,rfl⟩;go_wp2;go_ret;exact⟨by simp[h0],rfl⟩
end
theorem Gx:(Tryz.prog.info? 262).bind (·.zero)=some (.agg Sp.zero.cells):=by kernel_rfl
theorem Pk:Tryz.prog.built 262 []=some Sp.zero.cells:=by kernel_rfl
theorem Cf:(Tryz.prog.info? 262).map (·.size)=some 39:=by kernel_rfl
theorem Rs.Vs.ok {ρ:Rs} (h:ρ.Vs) (n:Int):(ρ.sp n).Ok∧(0≤(ρ.sp n).own∧(ρ.sp n).own≤2147483648)∧(0≤(ρ.sp n).sides∧(ρ.sp n).sides≤2147483648):=by
 rcases ρ.parts n with ho|⟨m,x,rfl,hm,hx⟩
 · rw[ρ.Im ho];exact⟨Sp.BP,by decide,by decide⟩
 rw[ρ.La hx];split
 · exact⟨Sp.BP,by decide,by decide⟩
 exact h.nums x (List.mem_of_getElem? hx)
section
variable {w w' : World} {b : Nat} {F : Nat→Prop} {ρ : Rs}
theorem DJ (h:RAt w b F ρ) (n:Int):Calls Tryz.prog 170 #[.pointer (some ⟨b,0,none⟩),.int .i64 n] w fun e w'=>e=.returned (.agg (ρ.sp n).cells)∧AN w w':=by
 obtain⟨Z,hZ⟩:∃Z,Z=Sp.zero.cells:=⟨_,rfl⟩
 have hz:=Gx;have hzb:=Pk;rw[←hZ] at hz hzb;have hzs:Z.size=39∧∀v∈Z.toList,v.oneCell'=true:=by rw[hZ];exact⟨Sp.AY Sp.BP,Sp.cells_one Sp.BP⟩
 have HZ:=(hIq hz (aIq hzs.1 (aIq hzs.2 hzb)))
 have hh:=FX (h.adds ((Ch.refl (fun _=>False) w).alloc (.cells Z 262))) n;have hl:=h.1.len;have hs:=h.1.space;by_cases hb:ρ.has n=true
 · rw[hb] at hh
   have HH:=Lib.hid hh;rcases ρ.parts n with hout|⟨m,x,rfl,hm,hx⟩
   · exfalso
     unfold Rs.has at hb;rw[ρ.Im hout] at hb;simp[Sp.zero] at hb
   have hsp:ρ.sp ((m:Int)+1)=x:=by
    unfold Rs.has at hb;rw[ρ.La hx] at hb ⊢;by_cases e:x.kind=0
    · rw[if_pos e] at hb;simp[Sp.zero] at hb
    rw[if_neg e]
   rw[hsp];obtain⟨g,cap,cur,vf,hb1,hg,q1,q2,q3,q4,q5,hok,hat,hex,_,_,hfit⟩:=Dy h hx;obtain⟨X,hX⟩:∃X,X=x.cells:=⟨_,rfl⟩
   have hXs:X.size=39∧∀v∈X.toList,v.oneCell'=true:=by rw[hX];exact⟨Sp.AY hok,Sp.cells_one hok⟩
   rw[←hX] at hex ⊢;have c2:=AH (AQ hb1 (.cells Z 262)) (i:=2) rfl;obtain⟨L,hL⟩:∃L,L=ρ.spots.length:=⟨_,rfl⟩
   rw[←hL] at c2 hm hl;have HG:=(hIq hg (aIq hfit hex))
   have HX:=Lib.hid hXs;have hml:m≤65535:=by omega
   clear hh hb hX hXs hz hzb hzs hZ hL hb1 hg q1 q2 q3 q4 q5 hok hat hex hfit hx hsp h;go_enter Tryz.func170,Tryz.ntmps170
   go_wp2_with (first
    | fail
    | ((with_reducible show zOq (.alloc 262));refine AO rfl 262 rfl (.agg Z) HZ.out.1 ?_;dsimp only[Value.cells];try simp only[World.size_alloc]))
   refine HH.out.mono ?_;rintro e w1 ⟨rfl,rfl⟩
   go_wp2_with (first
    | fail
    | ((with_reducible show zOq (.load 262 _));refine AJ rfl 262 _ rfl g (m*39) rfl (AQ HG.out.1 _) Tryz.underlying262 rfl Cf HG.out.2.1 X HG.out.2.2 ?_)
    | ((with_reducible show zOq (.store 262 _ _));refine AI rfl 262 _ _ rfl w.heap.size 0 X rfl rfl (heap_alloc_new _ _) (by rw[Cf,HX.out.1]) (by rw[HX.out.1,HZ.out.2.1];omega) HX.out.2 X (by rw[AT _ _ (by rw[Array.length_toList,Array.length_toList,HX.out.1,HZ.out.2.1])]) ?_))
   exact Af (p:=4) rfl rfl (AK (heap_alloc_new _ _) _) Tryz.underlying262 rfl (by rw[Cf,HX.out.1]) rfl ⟨rfl,((Ch.refl _ _).alloc _).setRow (.inr (Nat.le_refl _)) _⟩
 have hb':ρ.has n=false:=by simpa using hb
 have hsp:ρ.sp n=Sp.zero:=by
  unfold Rs.has at hb';rcases ρ.parts n with hout|⟨m,x,rfl,hm,hx⟩
  · exact ρ.Im hout
  rw[ρ.La hx] at hb' ⊢;by_cases e:x.kind=0
  · rw[if_pos e]
  rw[if_neg e] at hb';simp[e] at hb'
 rw[hb'] at hh;have HH:=Lib.hid hh;rw[hsp, ←hZ];clear hh hb hb' hsp hz hzb hzs hZ h hl hs;go_enter Tryz.func170,Tryz.ntmps170
 go_wp2_with (first
  | fail
  | ((with_reducible show zOq (.alloc 262));refine AO rfl 262 rfl (.agg Z) HZ.out.1 ?_;dsimp only[Value.cells];try simp only[World.size_alloc]))
 refine HH.out.mono ?_;rintro e w1 ⟨rfl,rfl⟩
 go_wp2_with (first
  | fail
  | ((with_reducible show zOq (.build 262 #[]));refine Ax rfl 262 rfl Z HZ.out.2.2.2 ?_)
  | ((with_reducible show zOq (.store 262 _ _));refine AI rfl 262 _ _ rfl w.heap.size 0 Z rfl rfl (heap_alloc_new _ _) (by rw[Cf,HZ.out.2.1]) (by omega) HZ.out.2.2.1 Z (by rw[AT _ _ rfl]) ?_))
 exact Af (p:=4) rfl rfl (AK (heap_alloc_new _ _) _) Tryz.underlying262 rfl (by rw[Cf,HZ.out.2.1]) rfl ⟨rfl,((Ch.refl _ _).alloc _).setRow (.inr (Nat.le_refl _)) _⟩
end
end Go.Proofs.YtngbdbpofifimaaGreat.Store
namespace Go.Proofs.YtngbdbpofifimaaGreat
open Go.RowKit
theorem BJ {P:Program} {w:World} {T:TypeId} {fs:Array Field} {N:Array Value} {i:Nat} {f:Field} {v:Value} (ht:P.underlying T=some (.struct fs)) (hf:fs[i]?=some f) (ha:(isAgg f.type).run P w=.ok false w) (hv:N[f.offset]?=some v) :
 (Instr.field T (.agg N) i).run P w=.ok v w:=by
 unfold Instr.field part;have hu:(Go.underlying T).run P w=.ok (.struct fs) w:=by simp[Go.underlying,ht,go_sem]
 simp only[Sem.run_bind,hu,Result.andThen_ok,hf,asAgg,Sem.run_pure,ha,hv];simp[go_sem]
theorem Kq {P:Program} {w:World} {T:TypeId} {fs:Array Field} {N:Array Value} {i:Nat} {f:Field} {n:Nat} (ht:P.underlying T=some (.struct fs)) (hf:fs[i]?=some f) (ha:(isAgg f.type).run P w=.ok true w) (hs:(Go.sizeOf f.type).run P w=.ok n w) {C:Array Value} (hv:N.extract f.offset (f.offset+n)=C) :
 (Instr.field T (.agg N) i).run P w=.ok (.agg C) w:=by
 unfold Instr.field part;have hu:(Go.underlying T).run P w=.ok (.struct fs) w:=by simp[Go.underlying,ht,go_sem]
 simp only[Sem.run_bind,hu,Result.andThen_ok,hf,asAgg,Sem.run_pure,ha];simp[hv,hs,go_sem]
end Go.Proofs.YtngbdbpofifimaaGreat
namespace Go.Proofs.YtngbdbpofifimaaGreat.Store
open Go.RowKit Go.Proofs.YtngbdbpofifimaaGreat.ShaW Go.Proofs.YtngbdbpofifimaaGreat.Path
section
variable {w w' : World} {b : Nat} {F : Nat→Prop} {ρ : Rs}
theorem Sz (h:RAt w b F ρ) (n:Int):Calls Tryz.prog 260 #[.pointer (some ⟨b,0,none⟩),.int .i64 n] w fun e w'=>e=.returned (.int .u8 ((ρ.sp n).kind:Nat))∧AN w w':=by
 have hg:=DJ h n;obtain⟨hok,ho,hs⟩:=h.1.ok n;obtain⟨N,hN⟩:∃N,N=(ρ.sp n).cells:=⟨_,rfl⟩
 have k0:=Sp.Ar (x:=ρ.sp n);rw[←hN] at hg k0;have hfd:=fun w=>BJ (P:=Tryz.prog) (w:=w) Tryz.underlying262 (i:=0) rfl (Tryz.isAgg90 w) k0
 have HG:=Lib.hid hg;clear hg hN hok ho hs h;go_enter Tryz.func260,Tryz.ntmps260;go_wp2_with fail;refine HG.out.mono ?_;rintro e w1 ⟨rfl,a1⟩;have A1:=Lib.hid a1;clear a1;go_wp2;go_ret;exact⟨rfl,A1.out⟩
theorem SP (h:RAt w b F ρ) (n:Int):Calls Tryz.prog 231 #[.pointer (some ⟨b,0,none⟩),.int .i64 n] w fun e w'=>e=.returned (.int .i64 (ρ.sp n).own)∧AN w w':=by
 have hg:=DJ h n;obtain⟨hok,ho,hs⟩:=h.1.ok n;obtain⟨N,hN⟩:∃N,N=(ρ.sp n).cells:=⟨_,rfl⟩
 have k0:=Sp.EG hok;rw[←hN] at hg k0;have hfd:=fun w=>BJ (P:=Tryz.prog) (w:=w) Tryz.underlying262 (i:=5) rfl (Tryz.isAgg3 w) k0
 have HG:=Lib.hid hg;clear hg hN hok ho hs h;go_enter Tryz.func231,Tryz.ntmps231;go_wp2_with fail;refine HG.out.mono ?_;rintro e w1 ⟨rfl,a1⟩;have A1:=Lib.hid a1;clear a1;go_wp2;go_ret;exact⟨rfl,A1.out⟩
def Rs.depth (ρ:Rs) (n:Int):Int:=if (ρ.sp n).kind=2 then (ρ.sp n).d else -1
theorem Qn (h:RAt w b F ρ) (n:Int):Calls Tryz.prog 169 #[.pointer (some ⟨b,0,none⟩),.int .i64 n] w fun e w'=>e=.returned (.int .i64 (ρ.depth n))∧AN w w':=by
 have hg:=fun w1 (a:AN w w1)=>DJ (h.adds a) n
 obtain⟨N,hN⟩:∃N,N=(ρ.sp n).cells:=⟨_,rfl⟩
 have k0:=Sp.Ar (x:=ρ.sp n);have k1:=Sp.WE (x:=ρ.sp n);rw[←hN] at k0 k1;rw[←hN] at hg;unfold Rs.depth;obtain⟨kd,hkd⟩:∃kd,kd=(ρ.sp n).kind:=⟨_,rfl⟩
 obtain⟨d,hd⟩:∃d,d=(ρ.sp n).d:=⟨_,rfl⟩
 rw[←hkd] at k0 ⊢;rw[←hd] at k1 ⊢;have hf0:=fun w=>BJ (P:=Tryz.prog) (w:=w) Tryz.underlying262 (i:=0) rfl (Tryz.isAgg90 w) k0
 have hf1:=fun w=>BJ (P:=Tryz.prog) (w:=w) Tryz.underlying262 (i:=1) rfl (Tryz.isAgg3 w) k1
 have HG:=Lib.hid hg;clear hg hN h hkd hd;by_cases h2:kd=2
 · subst h2
   go_enter Tryz.func169,Tryz.ntmps169;go_wp2_with fail;refine(HG.out _ (Ch.refl _ _)).mono ?_;rintro e w1 ⟨rfl,a1⟩;have A1:=Lib.hid a1;clear a1;go_wp2_with fail;refine(HG.out _ A1.out).mono ?_;rintro e w2 ⟨rfl,a2⟩;have A2:=Lib.hid (A1.out.trans a2 (fun _=>fEq));clear a2;go_wp2;go_ret;exact⟨rfl,A2.out⟩
 have h2':¬((kd:Nat):Int)=2:=by omega
 rw[if_neg h2];go_enter Tryz.func169,Tryz.ntmps169;go_wp2_with fail;refine(HG.out _ (Ch.refl _ _)).mono ?_;rintro e w1 ⟨rfl,a1⟩;have A1:=Lib.hid a1;clear a1;go_wp2;go_ret;exact⟨rfl,A1.out⟩
theorem P9 (h:RAt w b F ρ) (n:Int):Calls Tryz.prog 297 #[.pointer (some ⟨b,0,none⟩),.int .i64 n] w fun e w'=>e=.returned (.tuple #[.int .i64 (ρ.sp n).left,.int .i64 (ρ.sp n).right])∧AN w w':=by
 have hg:=fun w1 (a:AN w w1)=>DJ (h.adds a) n
 obtain⟨hok,ho,hs⟩:=h.1.ok n;obtain⟨N,hN⟩:∃N,N=(ρ.sp n).cells:=⟨_,rfl⟩
 have k0:=Sp.Ge hok;have k1:=Sp.E8 hok;rw[←hN] at k0 k1;rw[←hN] at hg;have hf0:=fun w=>BJ (P:=Tryz.prog) (w:=w) Tryz.underlying262 (i:=3) rfl (Tryz.isAgg3 w) k0
 have hf1:=fun w=>BJ (P:=Tryz.prog) (w:=w) Tryz.underlying262 (i:=4) rfl (Tryz.isAgg3 w) k1
 have HG:=Lib.hid hg;clear hg hN hok ho hs h;go_enter Tryz.func297,Tryz.ntmps297;go_wp2_with fail;refine(HG.out _ (Ch.refl _ _)).mono ?_;rintro e w1 ⟨rfl,a1⟩;have A1:=Lib.hid a1;clear a1;go_wp2_with fail;refine(HG.out _ A1.out).mono ?_;rintro e w2 ⟨rfl,a2⟩;have A2:=Lib.hid (A1.out.trans a2 (fun _=>fEq));clear a2;go_wp2;go_ret2;exact⟨rfl,A2.out⟩
theorem RJ (h:RAt w b F ρ) (n:Int):Calls Tryz.prog 225 #[.pointer (some ⟨b,0,none⟩),.int .i64 n] w fun e w'=>e=.returned (.int .i64 ((ρ.sp n).own+(ρ.sp n).sides))∧AN w w':=by
 have hg:=fun w1 (a:AN w w1)=>DJ (h.adds a) n
 obtain⟨hok,ho,hs⟩:=h.1.ok n;obtain⟨N,hN⟩:∃N,N=(ρ.sp n).cells:=⟨_,rfl⟩
 have k0:=Sp.EG hok;have k1:=Sp.GS hok;rw[←hN] at k0 k1;rw[←hN] at hg;obtain⟨x,hx⟩:∃x,x=(ρ.sp n).own:=⟨_,rfl⟩
 obtain⟨y,hy⟩:∃y,y=(ρ.sp n).sides:=⟨_,rfl⟩
 rw[←hx] at k0 ho ⊢;rw[←hy] at k1 hs ⊢;have hf0:=fun w=>BJ (P:=Tryz.prog) (w:=w) Tryz.underlying262 (i:=5) rfl (Tryz.isAgg3 w) k0
 have hf1:=fun w=>BJ (P:=Tryz.prog) (w:=w) Tryz.underlying262 (i:=6) rfl (Tryz.isAgg3 w) k1
 have hw:IntKind.i64.wrap (x+y)=x+y:=IntWalk.i64_in _ (by omega);have hw2:wrap64 (x+y)=x+y:=by unfold wrap64;omega
 have HG:=Lib.hid hg;clear hg hN hok ho hs h hx hy;go_enter Tryz.func225,Tryz.ntmps225;go_wp2_with fail;refine(HG.out _ (Ch.refl _ _)).mono ?_;rintro e w1 ⟨rfl,a1⟩;have A1:=Lib.hid a1;clear a1;go_wp2_with fail;refine(HG.out _ A1.out).mono ?_;rintro e w2 ⟨rfl,a2⟩;have A2:=Lib.hid (A1.out.trans a2 (fun _=>fEq));clear a2;go_wp2;go_ret;exact⟨by first|rfl|(simp[hw2];done),A2.out⟩
theorem Sn (h:RAt w b F ρ):Calls Tryz.prog 230 #[.pointer (some ⟨b,0,none⟩)] w fun e w'=>e=.returned (.int .i64 (ρ.space:Nat))∧w=w':=by
 have HN:=Lib.hid (Cd h);obtain⟨ao,cap,vf,hb⟩:=h.head;have c1:=AH hb (i:=1) rfl;clear hb h;go_enter Tryz.func230,Tryz.ntmps230;go_wp2_with fail;refine HN.out.mono ?_;rintro e w1 ⟨rfl,rfl⟩;go_wp2;go_ret;exact⟨rfl,rfl⟩
def Rs.AX (ρ:Rs) (n:Int):Int:=if n=0 then 0 else if ρ.has n=false then 7 else if 0<ρ.depth n then 2 else 0
theorem TW (h:RAt w b F ρ) (n:Int):Calls Tryz.prog 80 #[.pointer (some ⟨b,0,none⟩),.int .i64 n] w fun e w'=>e=.returned (.int .i64 (ρ.AX n))∧AN w w':=by
 have HN:=Lib.hid (Cd h);have hh:=FX h n;have hd:=Qn h n;unfold Rs.AX;obtain⟨d,hdd⟩:∃d,d=ρ.depth n:=⟨_,rfl⟩
 rw[←hdd] at hd ⊢;by_cases h0:n=0
 · subst h0
   clear hh hd hdd h;go_enter Tryz.func80,Tryz.ntmps80;go_wp2_with fail;refine HN.out.mono ?_;rintro e w1 ⟨rfl,rfl⟩;go_wp2;go_ret;exact⟨rfl,Ch.refl _ _⟩
 rw[if_neg h0];cases hb:ρ.has n with
 | false =>
  rw[hb] at hh;have HH:=Lib.hid hh;clear hh hd hdd h hb;go_enter Tryz.func80,Tryz.ntmps80;go_wp2_with fail;refine HN.out.mono ?_;rintro e w1 ⟨rfl,rfl⟩;go_wp2_with fail;refine HH.out.mono ?_;rintro e w1 ⟨rfl,rfl⟩;go_wp2;go_ret;exact⟨rfl,Ch.refl _ _⟩
 | true =>
  rw[hb] at hh;have HH:=Lib.hid hh;have HD:=Lib.hid hd;clear hh hd hdd h hb;rw[if_neg (by simp)];by_cases hp:0<d
  · have dp:decide ((0:Int)<d)=true:=decide_eq_true hp
    rw[if_pos hp];go_enter Tryz.func80,Tryz.ntmps80;go_wp2_with fail;refine HN.out.mono ?_;rintro e w1 ⟨rfl,rfl⟩;go_wp2_with fail;refine HH.out.mono ?_;rintro e w1 ⟨rfl,rfl⟩;go_wp2_with fail;refine HD.out.mono ?_;rintro e w1 ⟨rfl,a1⟩;have A1:=Lib.hid a1;clear a1;go_wp2;go_ret;exact⟨rfl,A1.out⟩
  have dp:decide ((0:Int)<d)=false:=decide_eq_false hp;rw[if_neg hp];go_enter Tryz.func80,Tryz.ntmps80;go_wp2_with fail;refine HN.out.mono ?_;rintro e w1 ⟨rfl,rfl⟩;go_wp2_with fail;refine HH.out.mono ?_;rintro e w1 ⟨rfl,rfl⟩;go_wp2_with fail;refine HD.out.mono ?_;rintro e w1 ⟨rfl,a1⟩;have A1:=Lib.hid a1;clear a1;go_wp2;go_ret;exact⟨rfl,A1.out⟩
end
section
variable {w w' : World} {b : Nat} {F : Nat→Prop} {ρ : Rs}
def Rs.Ni (ρ:Rs) (n:Int):Bool:=decide (n=0)||(ρ.has n&&decide (0<(ρ.sp n).own))
theorem Jb (h:RAt w b F ρ) (n:Int):Calls Tryz.prog 328 #[.pointer (some ⟨b,0,none⟩),.int .i64 n] w fun e w'=>e=.returned (.bool (ρ.Ni n))∧AN w w':=by
 have hh:=FX h n;have hg:=DJ h n;obtain⟨hok,ho,hs⟩:=h.1.ok n;obtain⟨N,hN⟩:∃N,N=(ρ.sp n).cells:=⟨_,rfl⟩
 have k0:=Sp.EG hok;rw[←hN] at hg k0;have hfd:=fun w=>BJ (P:=Tryz.prog) (w:=w) Tryz.underlying262 (i:=5) rfl (Tryz.isAgg3 w) k0
 unfold Rs.Ni;obtain⟨x,hx⟩:∃x,x=(ρ.sp n).own:=⟨_,rfl⟩
 rw[←hx] at hfd ⊢;have HG:=Lib.hid hg;by_cases h0:n=0
 · subst h0
   clear hh hg hok ho hs hN k0 hfd hx h;go_enter Tryz.func328,Tryz.ntmps328;go_wp2;go_ret;exact⟨rfl,Ch.refl _ _⟩
 rw[decide_eq_false h0,Bool.false_or];have h0b:(n == 0)=false:=by simpa using h0
 cases hb:ρ.has n with
 | false =>
  rw[hb] at hh;have HH:=Lib.hid hh;clear hh hg hok ho hs hN k0 hfd hx h hb;go_enter Tryz.func328,Tryz.ntmps328;go_wp2_with fail;refine HH.out.mono ?_;rintro e w1 ⟨rfl,rfl⟩;go_wp2;go_ret;exact⟨rfl,Ch.refl _ _⟩
 | true =>
  rw[hb] at hh;have HH:=Lib.hid hh;rw[Bool.true_and];obtain⟨d,hd⟩:∃d,d=decide (0<x):=⟨_,rfl⟩
  rw[←hd];clear hh hg hok ho hs hN k0 hx h hb;cases d
  · have hd':decide ((0:Int)<x)=false:=hd.symm
    clear hd;go_enter Tryz.func328,Tryz.ntmps328;go_wp2_with fail;refine HH.out.mono ?_;rintro e w1 ⟨rfl,rfl⟩;go_wp2_with fail;refine HG.out.mono ?_;rintro e w1 ⟨rfl,a1⟩;have A1:=Lib.hid a1;clear a1;go_wp2;go_ret;exact⟨rfl,A1.out⟩
  have hd':decide ((0:Int)<x)=true:=hd.symm;clear hd;go_enter Tryz.func328,Tryz.ntmps328;go_wp2_with fail;refine HH.out.mono ?_;rintro e w1 ⟨rfl,rfl⟩;go_wp2_with fail;refine HG.out.mono ?_;rintro e w1 ⟨rfl,a1⟩;have A1:=Lib.hid a1;clear a1;go_wp2;go_ret;exact⟨rfl,A1.out⟩
def Rs.FG (ρ:Rs):Bool:=decide (ρ.free.length=0)&&decide (ρ.space≤ρ.spots.length)
theorem Hz (h:RAt w b F ρ):Calls Tryz.prog 299 #[.pointer (some ⟨b,0,none⟩)] w fun e w'=>e=.returned (.bool ρ.FG)∧AN w w':=by
 obtain⟨h0,vs,vf,h1,h2,h3,_⟩:=h;obtain⟨ao,cap,rfl⟩:=Am h2;obtain⟨af,capf,rfl⟩:=Am h3;have c1:=AH h1 (i:=1) rfl;have c2:=AH h1 (i:=2) rfl;have c3:=AH h1 (i:=3) rfl;unfold Rs.FG;obtain⟨S,hS⟩:∃S,S=ρ.space:=⟨_,rfl⟩
 obtain⟨L,hL⟩:∃L,L=ρ.spots.length:=⟨_,rfl⟩
 obtain⟨Fl,hF⟩:∃L,L=ρ.free.length:=⟨_,rfl⟩
 rw[←hS] at c1 ⊢;rw[←hL] at c2 ⊢;rw[←hF] at c3 ⊢;clear h0 h1 h2 h3 hS hL hF;by_cases hf:Fl=0
 · subst hf
   by_cases hl:S≤L
   · have d1:decide ((S:Int)≤(L:Int))=true:=decide_eq_true (by omega)
     rw[decide_eq_true hl];have HLL:=Lib.hid hl;clear hl;go_enter Tryz.func299,Tryz.ntmps299;go_wp2;go_quiet (fail);go_wp2;go_ret;exact⟨by simp[HLL.out],(Ch.refl _ _).drewN _⟩
   have d1:decide ((S:Int)≤(L:Int))=false:=decide_eq_false (by omega);rw[decide_eq_false hl];have HLL:=Lib.hid hl;clear hl;go_enter Tryz.func299,Tryz.ntmps299;go_wp2;go_quiet (fail);go_wp2;go_ret;exact⟨by simp[HLL.out],(Ch.refl _ _).drewN _⟩
 have d1:¬((Fl:Nat):Int)=0:=by omega
 rw[decide_eq_false hf];have d2:((Fl:Int) == 0)=false:=by simpa using d1
 go_enter Tryz.func299,Tryz.ntmps299;go_wp2;go_quiet (fail);go_wp2;go_ret;exact⟨rfl,(Ch.refl _ _).drewN _⟩
end
end Go.Proofs.YtngbdbpofifimaaGreat.Store
