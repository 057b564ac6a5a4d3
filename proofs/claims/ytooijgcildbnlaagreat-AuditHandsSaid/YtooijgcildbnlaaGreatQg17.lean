/- Laws of the layers below. -/
import Derived.Test.YtooijgcildbnlaaGreatQg16
set_option maxHeartbeats 3200000
set_option maxRecDepth 100000
set_option linter.unusedVariables false
namespace Go.Proofs.YtooijgcildbnlaaGreat.Store
open Go.RowKit Go.Proofs.YtooijgcildbnlaaGreat.ShaW Go.Proofs.YtooijgcildbnlaaGreat.Path
structure Sp where
 kind:Nat
 d:Int
 key:List UInt8
 addr:Value
 value:List UInt8
 left:Int
 right:Int
 own:Int
 sides:Int
namespace Sp
def zero:Sp:=⟨0,0,Nd.z32,.slice none 0 0,[],0,0,0,0⟩
def cells (x:Sp):Array Value:=(.int .u8 (x.kind:Nat)::.int .i64 x.d::(x.key.map bv ++ [x.addr,.int .i64 x.left,.int .i64 x.right,.int .i64 x.own,.int .i64 x.sides])).toArray
structure Ok (x:Sp):Prop where
 key:x.key.length=32
 addr:∃ao len cap,x.addr=.slice ao len cap
 val:x.value.length≤1024
theorem BA:zero.Ok:=⟨rfl,⟨none,0,0,rfl⟩,by decide⟩
variable {x : Sp}
theorem Aj:x.cells.toList=.int .u8 (x.kind:Nat)::.int .i64 x.d::(x.key.map bv ++ [x.addr,.int .i64 x.left,.int .i64 x.right,.int .i64 x.own,.int .i64 x.sides]):=rfl
theorem AT (h:x.Ok):x.cells.size=39:=by simp[cells,h.key]
theorem cells_one (h:x.Ok):∀v∈x.cells.toList,v.oneCell'=true:=by
 obtain⟨ao,len,cap,ha⟩:=h.addr;intro v hv;rw[Aj] at hv;simp only[List.mem_cons,List.mem_append,List.mem_map,List.not_mem_nil,or_false] at hv;rcases hv with rfl|rfl|⟨b,_,rfl⟩|rfl|rfl|rfl|rfl|rfl
 · rfl
 · rfl
 · rfl
 · rw[ha];rfl
 · rfl
 · rfl
 · rfl
 rfl
theorem Av:x.cells[0]?=some (.int .u8 (x.kind:Nat)):=rfl
theorem LI:x.cells[1]?=some (.int .i64 x.d):=rfl
theorem FF (h:x.Ok) (i:Nat):x.cells[34+i]? = [x.addr,Value.int .i64 x.left,.int .i64 x.right,.int .i64 x.own,.int .i64 x.sides][i]?:=by
 rw[←Array.getElem?_toList,Aj,show 34+i=(32+i)+1+1 by omega,List.getElem?_cons_succ,List.getElem?_cons_succ,List.getElem?_append_right (by simp[h.key])];simp[h.key]
theorem Jp (h:x.Ok):x.cells[34]?=some x.addr:=FF h 0
theorem E6 (h:x.Ok):x.cells[35]?=some (.int .i64 x.left):=FF h 1
theorem EJ (h:x.Ok):x.cells[36]?=some (.int .i64 x.right):=FF h 2
theorem EZ (h:x.Ok):x.cells[37]?=some (.int .i64 x.own):=FF h 3
theorem Gg (h:x.Ok):x.cells[38]?=some (.int .i64 x.sides):=FF h 4
theorem Bh (h:x.Ok):x.cells.extract 2 (2+32)=AJ x.key:=by
 apply Array.ext';simp only[Array.toList_extract,List.extract,Aj,AJ];simp only[show 2+32-2=32 by rfl,List.drop_succ_cons,List.drop_zero];rw[List.take_append_of_le_length (by simp[h.key]),List.take_of_length_le (by simp[h.key])]
def entry (x:Sp):Array Value:=(x.key.map bv ++ [x.addr]).toArray
theorem Ob (h:x.Ok):x.cells.extract 2 (2+33)=x.entry:=by
 apply Array.ext';simp only[Array.toList_extract,List.extract,Aj,entry];simp only[show 2+33-2=33 by rfl,List.drop_succ_cons,List.drop_zero];rw[List.take_append,List.take_of_length_le (by simp[h.key])];simp[h.key]
theorem IF (h:x.Ok) (n:Int):x.cells.setIfInBounds 37 (.int .i64 n)=({ x with own:=n }:Sp).cells:=by
 apply Array.ext';simp only[Array.toList_setIfInBounds,Aj];simp only[show 37=35+1+1 by rfl,List.set_cons_succ];rw[List.set_append_right _ _ (by simp[h.key]),List.length_map,h.key];rfl
theorem Lc (h:x.Ok) (n:Int):x.cells.setIfInBounds 38 (.int .i64 n)=({ x with sides:=n }:Sp).cells:=by
 apply Array.ext';simp only[Array.toList_setIfInBounds,Aj];simp only[show 38=36+1+1 by rfl,List.set_cons_succ];rw[List.set_append_right _ _ (by simp[h.key]),List.length_map,h.key];rfl
end Sp
structure Rs where
 space:Nat
 spots:List Sp
 free:List Nat
def Rs.sp (ρ:Rs) (h:Int):Sp:=if 1≤h then (match ρ.spots[(h-1).toNat]? with|some x=>if x.kind=0 then Sp.zero else x|none=>Sp.zero) else Sp.zero
def Rs.has (ρ:Rs) (h:Int):Bool:=decide ((ρ.sp h).kind≠0)
def Rs.setAt (ρ:Rs) (m:Nat) (x:Sp):Rs := { ρ with spots:=ρ.spots.set m x }
def Q0 (s:Nd×Nat) (x:Sp):Prop :=
 (s.2=0∧x=Sp.zero)∨(s.2≠0∧x.kind=s.1.kind∧x.left=s.1.left∧x.right=s.1.right∧x.value=s.1.value∧(s.1.kind=1→x.key=s.1.key)∧(s.1.kind=2→x.d=s.1.depth)∧x.own=s.1.held∧x.own+x.sides=s.2)
structure Lk (σ:AD Nd) (ρ:Rs):Prop where
 space:ρ.space=σ.room
 free:ρ.free=σ.free
 len:ρ.spots.length=σ.slots.length
 slot:∀(m:Nat) s x,σ.slots[m]?=some s→ρ.spots[m]?=some x→Q0 s x
section
variable {σ : AD Nd} {ρ : Rs} {h : Int}
theorem Mz (G:Good σ) {x:Nd×Nat} (hx:σ.get? h=some x):x.1.kind=1∨x.1.kind=2:=by
 by_cases e:x.1.kind=2
 · exact .inr e
 exact .inl (G.fit.leaf (BV hx) e).1
theorem Lk.some (L:Lk σ ρ) (G:Good σ) {s:Nd×Nat} (hs:σ.get? h=Option.some s):∃(m:Nat) (x:Sp),h=(m:Int)+1∧m<σ.slots.length∧σ.slots[m]?=Option.some s∧ρ.spots[m]?=Option.some x∧s.2≠0∧ρ.sp h=x∧x.kind=s.1.kind∧x.kind≠0∧x.left=s.1.left∧x.right=s.1.right∧x.value=s.1.value∧(s.1.kind=1→x.key=s.1.key)∧(s.1.kind=2→x.d=s.1.depth)∧x.own=s.1.held∧x.own+x.sides=s.2:=by
 obtain⟨m,rfl,hm,h0,hlt⟩:=AD.Ag hs;have hlr:m<ρ.spots.length:=by rw[L.len];exact hlt
 have hx:ρ.spots[m]?=Option.some ρ.spots[m]:=List.getElem?_eq_getElem hlr;have hk:s.1.kind≠0:=by rcases Mz G hs with e|e<;>omega
 rcases L.slot m s _ hm hx with⟨e,_⟩|⟨_,h1,h2,h3,h4,h5,h6,h7,h8⟩
 · exact absurd e h0
 refine⟨m,_,rfl,hlt,hm,hx,h0,?_,h1,by omega,h2,h3,h4,h5,h6,h7,h8⟩;unfold Rs.sp;rw[if_pos (by omega),show((m:Int)+1-1).toNat=m by omega,hx];simp only;rw[if_neg (by omega)]
theorem Lk.none (L:Lk σ ρ) (hs:σ.get? h=Option.none):ρ.sp h=Sp.zero:=by
 rcases AD.Lw hs with h1|⟨m,rfl,h2⟩
 · unfold Rs.sp;rw[if_neg (by omega)]
 unfold Rs.sp;rw[if_pos (by omega),show((m:Int)+1-1).toNat=m by omega];rcases h2 with h2|⟨v,hv⟩
 · rw[List.getElem?_eq_none (by rw[L.len];exact h2)]
 have hlt:=(List.getElem?_eq_some_iff.1 hv).1;have hlr:m<ρ.spots.length:=by rw[L.len];exact hlt
 have hx:ρ.spots[m]?=Option.some ρ.spots[m]:=List.getElem?_eq_getElem hlr;rw[hx];rcases L.slot m _ _ hv hx with⟨_,e⟩|⟨e,_⟩
 · simp only[e];rfl
 exact absurd rfl e
theorem Lk.has (L:Lk σ ρ) (G:Good σ) (h:Int):ρ.has h=Store.has σ h:=by
 unfold Rs.has;cases hs:σ.get? h with
 | none=>rw[L.none hs,DK hs];rfl
 | some s =>
  obtain⟨m,x,_,_,_,_,_,e,_,h0,_⟩:=L.some G hs;rw[e,Bq hs];simpa using h0
theorem Lk.kind (L:Lk σ ρ) (G:Good σ) (h:Int):(ρ.sp h).kind=(nd σ h).kind:=by
 cases hs:σ.get? h with
 | none=>rw[L.none hs,B9 hs];rfl
 | some s =>
  obtain⟨m,x,_,_,_,_,_,e,h1,_⟩:=L.some G hs;rw[e,Ay hs,h1]
theorem Lk.left (L:Lk σ ρ) (G:Good σ) (h:Int):(ρ.sp h).left=(nd σ h).left:=by
 cases hs:σ.get? h with
 | none=>rw[L.none hs,B9 hs];rfl
 | some s =>
  obtain⟨m,x,_,_,_,_,_,e,_,_,h1,_⟩:=L.some G hs;rw[e,Ay hs,h1]
theorem Lk.right (L:Lk σ ρ) (G:Good σ) (h:Int):(ρ.sp h).right=(nd σ h).right:=by
 cases hs:σ.get? h with
 | none=>rw[L.none hs,B9 hs];rfl
 | some s =>
  obtain⟨m,x,_,_,_,_,_,e,_,_,_,h1,_⟩:=L.some G hs;rw[e,Ay hs,h1]
theorem Lk.value (L:Lk σ ρ) (G:Good σ) (h:Int):(ρ.sp h).value=(nd σ h).value:=by
 cases hs:σ.get? h with
 | none=>rw[L.none hs,B9 hs];rfl
 | some s =>
  obtain⟨m,x,_,_,_,_,_,e,_,_,_,_,h1,_⟩:=L.some G hs;rw[e,Ay hs,h1]
theorem Lk.own (L:Lk σ ρ) (G:Good σ) (h:Int):(ρ.sp h).own=(nd σ h).held:=by
 cases hs:σ.get? h with
 | none=>rw[L.none hs,B9 hs];rfl
 | some s =>
  obtain⟨m,x,_,_,_,_,_,e,_,_,_,_,_,_,_,h1,_⟩:=L.some G hs;rw[e,Ay hs,h1]
theorem Lk.count (L:Lk σ ρ) (G:Good σ) (h:Int):(ρ.sp h).own+(ρ.sp h).sides=σ.count h:=by
 cases hs:σ.get? h with
 | none=>rw[L.none hs];unfold AD.count;rw[hs];rfl
 | some s =>
  obtain⟨m,x,_,_,_,_,_,e,_,_,_,_,_,_,_,_,h1⟩:=L.some G hs;rw[e,h1];unfold AD.count;rw[hs];rfl
theorem Lk.depth (L:Lk σ ρ) (G:Good σ) (h:Int):(if (ρ.sp h).kind=2 then (ρ.sp h).d else -1)=if (nd σ h).kind=2 then (nd σ h).depth else -1:=by
 cases hs:σ.get? h with
 | none=>rw[L.none hs,B9 hs];rfl
 | some s =>
  obtain⟨m,x,_,_,_,_,_,e,h1,_,_,_,_,_,h2,_,_⟩:=L.some G hs;rw[e,Ay hs,h1];by_cases hk:s.1.kind=2
  · rw[if_pos hk,if_pos hk,h2 hk]
  rw[if_neg hk,if_neg hk]
theorem Lk.new (n:Nat):Lk ⟨n,[],[]⟩ ⟨n,[],[]⟩:=⟨rfl,rfl,rfl,fun m s x hs=>by simp at hs⟩
theorem Lk.set (L:Lk σ ρ) {m:Nat} {s:Nd×Nat} {x:Sp} (hx:Q0 s x):Lk { σ with slots:=σ.slots.set m s } { ρ with spots:=ρ.spots.set m x }:=by
 refine⟨L.space,L.free,by simp[L.len],fun j t y ht hy=>?_⟩;simp only at ht hy;by_cases e:m=j
 · subst e
   have h1:=(List.getElem?_eq_some_iff.1 ht).1;rw[List.length_set] at h1;rw[List.getElem?_set_self h1] at ht;rw[List.getElem?_set_self (by rw[L.len];exact h1)] at hy;cases ht;cases hy;exact hx
 rw[List.getElem?_set_ne e] at ht hy;exact L.slot j t y ht hy
theorem Lk.push (L:Lk σ ρ) {s:Nd×Nat} {x:Sp} (hx:Q0 s x):Lk { σ with slots:=σ.slots ++ [s] } { ρ with spots:=ρ.spots ++ [x] }:=by
 refine⟨L.space,L.free,by simp[L.len],fun j t y ht hy=>?_⟩;simp only at ht hy;by_cases e:j<σ.slots.length
 · rw[List.getElem?_append_left e] at ht
   rw[List.getElem?_append_left (by rw[L.len];exact e)] at hy;exact L.slot j t y ht hy
 rw[List.getElem?_append_right (by omega)] at ht;rw[List.getElem?_append_right (by rw[L.len];omega),L.len] at hy;obtain⟨h1,h2⟩:=List.getElem?_eq_some_iff.1 ht;have h3:j-σ.slots.length=0:=by simp at h1;omega
 rw[h3] at ht hy;simp at ht hy;subst ht hy;exact hx
end
structure Rs.Cr (ρ:Rs):Prop where
 space:1≤ρ.space∧ρ.space≤65536
 len:ρ.spots.length≤ρ.space
 free:∀n∈ρ.free,1≤n∧n≤ρ.spots.length
 flen:ρ.free.length≤ρ.spots.length
 nums:∀x∈ρ.spots,x.Ok∧(0≤x.own∧x.own≤2147483648)∧(0≤x.sides∧x.sides≤2147483648)
def RAt (w:World) (b:Nat) (F:Nat→Prop) (ρ:Rs):Prop :=
 ρ.Cr∧∃vs vf,w.heap[b]?=some (.cells #[.bool true,.int .i64 (ρ.space:Nat),vs,vf] 272 (0,0)) ∧
  w.ownsRow 0 254 39 vs ρ.spots.length (Bz (ρ.spots.map Sp.cells))∧w.ownsRow 0 3 1 vf ρ.free.length (ints ρ.free) ∧
  (∀x∈ρ.spots,Bytes w x.addr x.value∧∀k,x.addr.ownBlock=some k→F k∧k≠b∧vs.ownBlock≠some k∧vf.ownBlock≠some k) ∧
  F b∧(∀k,vs.ownBlock=some k→F k∧k≠b)∧(∀k,vf.ownBlock=some k→F k∧k≠b∧vs.ownBlock≠some k)∧(∀k,F k→k<w.heap.size)
def RMoved (w w':World) (b:Nat) (F:Nat→Prop) (ρ:Rs):Prop:=∃F',RAt w' b F' ρ∧Ch F w w'∧∀k,F' k→F k∨w.heap.size≤k
section
variable {w w' : World} {b : Nat} {F : Nat→Prop} {ρ : Rs}
theorem RAt.Am {C:Nat→Prop} (h:RAt w b F ρ) (hc:Ch C w w') (hd:∀k,F k→¬C k):RAt w' b F ρ:=by
 obtain⟨h0,vs,vf,h1,h2,h3,h4,h5,h6,h7,h8⟩:=h;exact⟨h0,vs,vf,hc.row h1 (hd b h5),hc.owns h2 (fun k hk=>hd k (h6 k hk).1),hc.owns h3 (fun k hk=>hd k (h7 k hk).1),fun x hx=>⟨(h4 x hx).1.Am hc (fun k hk=>hd k ((h4 x hx).2 k hk).1),(h4 x hx).2⟩,h5,h6,h7,fun k hk=>Nat.lt_of_lt_of_le (h8 k hk) hc.size⟩
theorem RAt.adds (h:RAt w b F ρ) (a:Adds w w'):RAt w' b F ρ:=h.Am a (fun _ _ h=>h)
theorem RMoved.same (h:RAt w b F ρ) (a:Adds w w'):RMoved w w' b F ρ:=⟨F,h.adds a,a.mono (fun _ _ h=>h.elim),fun k hk=>.inl hk⟩
theorem RMoved.from {w0:World} (a:Adds w0 w) (h:RMoved w w' b F ρ):RMoved w0 w' b F ρ:=by
 obtain⟨F1,h1,h2,h3⟩:=h;exact⟨F1,h1,(a.mono (G:=F) (fun _ _ h=>h.elim)).trans h2 (fun k hk=>.inl hk),fun k hk=>(h3 k hk).elim .inl (fun h=>.inr (Nat.le_trans a.size h))⟩
theorem ES (h:RAt w b F ρ) {m:Nat} {x:Sp} (hx:ρ.spots[m]?=some x) :
 ∃g cap cur vf,w.heap[b]?=some (.cells #[.bool true,.int .i64 (ρ.space:Nat),.slice (some ⟨g,0,none⟩) ρ.spots.length cap,vf] 272 (0,0)) ∧
  w.heap[g]?=some (.cells cur 254 (0,0))∧ρ.spots.length≤cap∧cap≤maxLen∧cur.size=cap*39∧cur.toList.take (ρ.spots.length*39)=Bz (ρ.spots.map Sp.cells)∧m<ρ.spots.length ∧
  x.Ok∧(∀j v,j<39→x.cells[j]?=some v→cur[m*39+j]?=some v)∧cur.extract (m*39) (m*39+39)=x.cells∧F g∧g≠b∧m*39+39≤cur.size:=by
 obtain⟨h0,vs,vf,h1,h2,h3,h4,h5,h6,h7,h8⟩:=h;have hm:=(List.getElem?_eq_some_iff.1 hx).1;obtain⟨g,cap,cur,rfl,hg,hc1,hc2,hc3,hc4⟩:=BZ h2 (by omega);have hok:x.Ok:=(h0.nums x (List.mem_of_getElem? hx)).1
 have hsz:∀a∈ρ.spots.map Sp.cells,a.size=39:=fun a ha=>by
  obtain⟨y,hy,rfl⟩:=List.mem_map.1 ha;exact Sp.AT (h0.nums y hy).1
 have hxm:(ρ.spots.map Sp.cells)[m]?=some x.cells:=by rw[List.getElem?_map,hx];rfl
 have hle:(m+1)*39≤ρ.spots.length*39:=Nat.mul_le_mul_right _ hm;refine⟨g,cap,cur,vf,h1,hg,hc1,hc2,hc3,hc4,hm,hok,fun j v hj hv=>?_,?_,(h6 g rfl).1,(h6 g rfl).2,by rw[hc3];omega⟩
 · exact DH hc4 (by rw[Sz hsz hxm hj];exact hv)
 apply Array.ext';have:=Pa hsz hxm;rw[←hc4] at this;rw[←this,Array.toList_extract,List.extract,show m*39+39-m*39=39 by omega,List.drop_take,List.take_take,Nat.min_eq_left (by omega)]
theorem RAt.head (h:RAt w b F ρ):∃ao cap vf,w.heap[b]?=some (.cells #[.bool true,.int .i64 (ρ.space:Nat),.slice ao ρ.spots.length cap,vf] 272 (0,0)):=by
 obtain⟨h0,vs,vf,h1,h2,_⟩:=h;obtain⟨ao,cap,rfl⟩:=Ar h2;exact⟨ao,cap,vf,h1⟩
theorem Cl (h:RAt w b F ρ):Calls Tryz.prog 162 #[.pointer (some ⟨b,0,none⟩)] w fun e w'=>e=.returned (.bool false)∧w=w':=by
 obtain⟨ao,cap,vf,hb⟩:=h.head;have c0:=AG hb (i:=0) rfl;clear hb h;go_enter Tryz.func162,Tryz.ntmps162;go_wp2;go_ret;exact⟨rfl,rfl⟩
theorem Rs.JM (ρ:Rs) {n:Int} (h:n<1∨(ρ.spots.length:Int)<n):ρ.sp n=Sp.zero:=by
 unfold Rs.sp;rcases h with h|h
 · rw[if_neg (by omega)]
 by_cases h1:1≤n
 · rw[if_pos h1,List.getElem?_eq_none (by omega)]
 rw[if_neg h1]
theorem Rs.Li (ρ:Rs) {m:Nat} {x:Sp} (h:ρ.spots[m]?=some x):ρ.sp ((m:Int)+1)=if x.kind=0 then Sp.zero else x:=by
 unfold Rs.sp;rw[if_pos (by omega),show((m:Int)+1-1).toNat=m by omega,h]
theorem Rs.parts (ρ:Rs) (n:Int):(n<1∨(ρ.spots.length:Int)<n)∨∃(m:Nat) (x:Sp),n=(m:Int)+1∧m<ρ.spots.length∧ρ.spots[m]?=some x:=by
 by_cases h:n<1∨(ρ.spots.length:Int)<n
 · exact .inl h
 have hlt:(n-1).toNat<ρ.spots.length:=by omega
 exact .inr ⟨(n-1).toNat,ρ.spots[(n-1).toNat],by omega,hlt,List.getElem?_eq_getElem hlt⟩
theorem EA (h:RAt w b F ρ) (n:Int):Calls Tryz.prog 163 #[.pointer (some ⟨b,0,none⟩),.int .i64 n] w fun e w'=>e=.returned (.bool (ρ.has n))∧w=w':=by
 have hn:=Cl h;have hl:=h.1.len;have hs:=h.1.space;have HN:=Lib.hid hn;clear hn;rcases ρ.parts n with hout|⟨m,x,rfl,hm,hx⟩
 · have hz:ρ.has n=false:=by unfold Rs.has;rw[ρ.JM hout];rfl
   rw[hz];obtain⟨ao,cap,vf,hb⟩:=h.head;have c2:=AG hb (i:=2) rfl;obtain⟨L,hL⟩:∃L,L=ρ.spots.length:=⟨_,rfl⟩
   rw[←hL] at c2 hout;clear hb h hz hL;by_cases h1:n<1
   · have d1:decide ((1:Int)≤n)=false:=decide_eq_false (by omega)
     clear hout;go_enter Tryz.func163,Tryz.ntmps163;go_wp2_with fail;refine HN.out.mono ?_;rintro e w1 ⟨rfl,rfl⟩;go_wp2;go_ret;exact⟨rfl,rfl⟩
   have d1:decide ((1:Int)≤n)=true:=decide_eq_true (by omega);have d2:decide (n≤(L:Int))=false:=decide_eq_false (by omega);clear hout;go_enter Tryz.func163,Tryz.ntmps163;go_wp2_with fail;refine HN.out.mono ?_;rintro e w1 ⟨rfl,rfl⟩;go_wp2;go_ret;exact⟨rfl,rfl⟩
 obtain⟨g,cap,cur,vf,hb,hg,q1,q2,q3,q4,q5,hok,hat,hex,_⟩:=ES h hx;have c2:=AG hb (i:=2) rfl;have ck:=AG hg (i:=m*39) (hat 0 _ (by omega) Sp.Av)
 have hhas:ρ.has ((m:Int)+1)=decide (x.kind≠0):=by
  unfold Rs.has;rw[ρ.Li hx];by_cases e:x.kind=0
  · rw[if_pos e,e];rfl
  rw[if_neg e]
 rw[hhas];obtain⟨L,hL⟩:∃L,L=ρ.spots.length:=⟨_,rfl⟩
 rw[←hL] at c2 hm hl;obtain⟨kd,hkd⟩:∃kd,kd=x.kind:=⟨_,rfl⟩
 rw[←hkd] at ck ⊢;have d1:decide ((1:Int)≤(m:Int)+1)=true:=decide_eq_true (by omega);have d2:decide ((m:Int)+1≤(L:Int))=true:=decide_eq_true (by omega);have hml:m≤65535:=by omega
 clear hb h hL hkd hhas hg q1 q2 q3 q4 q5 hok hat hex hx;by_cases h0:kd=0
 · subst h0
   go_enter Tryz.func163,Tryz.ntmps163;go_wp2_with fail;refine HN.out.mono ?_;rintro e w1 ⟨rfl,rfl⟩;go_wp2;go_ret;exact⟨rfl,rfl⟩
 have h0':¬((kd:Nat):Int)=0:=by omega
 go_enter Tryz.func163,Tryz.ntmps163;go_wp2_with fail;refine HN.out.mono ?_;rintro e w1 ⟨rfl,rfl⟩;go_wp2;go_ret;exact⟨by simp[h0],rfl⟩
end
theorem Ey:(Tryz.prog.info? 254).bind (·.zero)=some (.agg Sp.zero.cells):=by kernel_rfl
theorem Qq:Tryz.prog.built 254 []=some Sp.zero.cells:=by kernel_rfl
theorem CJ:(Tryz.prog.info? 254).map (·.size)=some 39:=by kernel_rfl
theorem Rs.Cr.ok {ρ:Rs} (h:ρ.Cr) (n:Int):(ρ.sp n).Ok∧(0≤(ρ.sp n).own∧(ρ.sp n).own≤2147483648)∧(0≤(ρ.sp n).sides∧(ρ.sp n).sides≤2147483648):=by
 rcases ρ.parts n with ho|⟨m,x,rfl,hm,hx⟩
 · rw[ρ.JM ho];exact⟨Sp.BA,by decide,by decide⟩
 rw[ρ.Li hx];split
 · exact⟨Sp.BA,by decide,by decide⟩
 exact h.nums x (List.mem_of_getElem? hx)
section
variable {w w' : World} {b : Nat} {F : Nat→Prop} {ρ : Rs}
theorem CX (h:RAt w b F ρ) (n:Int):Calls Tryz.prog 165 #[.pointer (some ⟨b,0,none⟩),.int .i64 n] w fun e w'=>e=.returned (.agg (ρ.sp n).cells)∧Adds w w':=by
 obtain⟨Z,hZ⟩:∃Z,Z=Sp.zero.cells:=⟨_,rfl⟩
 have hz:=Ey;have hzb:=Qq;rw[←hZ] at hz hzb;have hzs:Z.size=39∧∀v∈Z.toList,v.oneCell'=true:=by rw[hZ];exact⟨Sp.AT Sp.BA,Sp.cells_one Sp.BA⟩
 have HZ:=(hIq hz (aIq hzs.1 (aIq hzs.2 hzb)))
 have hh:=EA (h.adds ((Ch.refl (fun _=>False) w).alloc (.cells Z 254))) n;have hl:=h.1.len;have hs:=h.1.space;by_cases hb:ρ.has n=true
 · rw[hb] at hh
   have HH:=Lib.hid hh;rcases ρ.parts n with hout|⟨m,x,rfl,hm,hx⟩
   · exfalso
     unfold Rs.has at hb;rw[ρ.JM hout] at hb;simp[Sp.zero] at hb
   have hsp:ρ.sp ((m:Int)+1)=x:=by
    unfold Rs.has at hb;rw[ρ.Li hx] at hb ⊢;by_cases e:x.kind=0
    · rw[if_pos e] at hb;simp[Sp.zero] at hb
    rw[if_neg e]
   rw[hsp];obtain⟨g,cap,cur,vf,hb1,hg,q1,q2,q3,q4,q5,hok,hat,hex,_,_,hfit⟩:=ES h hx;obtain⟨X,hX⟩:∃X,X=x.cells:=⟨_,rfl⟩
   have hXs:X.size=39∧∀v∈X.toList,v.oneCell'=true:=by rw[hX];exact⟨Sp.AT hok,Sp.cells_one hok⟩
   rw[←hX] at hex ⊢;have c2:=AG (AM hb1 (.cells Z 254)) (i:=2) rfl;obtain⟨L,hL⟩:∃L,L=ρ.spots.length:=⟨_,rfl⟩
   rw[←hL] at c2 hm hl;have HG:=(hIq hg (aIq hfit hex))
   have HX:=Lib.hid hXs;have hml:m≤65535:=by omega
   clear hh hb hX hXs hz hzb hzs hZ hL hb1 hg q1 q2 q3 q4 q5 hok hat hex hfit hx hsp h;go_enter Tryz.func165,Tryz.ntmps165
   go_wp2_with (first
    | fail
    | ((with_reducible show zOq (.alloc 254));refine AH rfl 254 rfl (.agg Z) HZ.out.1 ?_;dsimp only[Value.cells];try simp only[World.size_alloc]))
   refine HH.out.mono ?_;rintro e w1 ⟨rfl,rfl⟩
   go_wp2_with (first
    | fail
    | ((with_reducible show zOq (.load 254 _));refine AK rfl 254 _ rfl g (m*39) rfl (AM HG.out.1 _) Tryz.underlying254 rfl CJ HG.out.2.1 X HG.out.2.2 ?_)
    | ((with_reducible show zOq (.store 254 _ _));refine AE rfl 254 _ _ rfl w.heap.size 0 X rfl rfl (heap_alloc_new _ _) (by rw[CJ,HX.out.1]) (by rw[HX.out.1,HZ.out.2.1];omega) HX.out.2 X (by rw[AI _ _ (by rw[Array.length_toList,Array.length_toList,HX.out.1,HZ.out.2.1])]) ?_))
   exact AN (p:=4) rfl rfl (AF (heap_alloc_new _ _) _) Tryz.underlying254 rfl (by rw[CJ,HX.out.1]) rfl ⟨rfl,((Ch.refl _ _).alloc _).setRow (.inr (Nat.le_refl _)) _⟩
 have hb':ρ.has n=false:=by simpa using hb
 have hsp:ρ.sp n=Sp.zero:=by
  unfold Rs.has at hb';rcases ρ.parts n with hout|⟨m,x,rfl,hm,hx⟩
  · exact ρ.JM hout
  rw[ρ.Li hx] at hb' ⊢;by_cases e:x.kind=0
  · rw[if_pos e]
  rw[if_neg e] at hb';simp[e] at hb'
 rw[hb'] at hh;have HH:=Lib.hid hh;rw[hsp, ←hZ];clear hh hb hb' hsp hz hzb hzs hZ h hl hs;go_enter Tryz.func165,Tryz.ntmps165
 go_wp2_with (first
  | fail
  | ((with_reducible show zOq (.alloc 254));refine AH rfl 254 rfl (.agg Z) HZ.out.1 ?_;dsimp only[Value.cells];try simp only[World.size_alloc]))
 refine HH.out.mono ?_;rintro e w1 ⟨rfl,rfl⟩
 go_wp2_with (first
  | fail
  | ((with_reducible show zOq (.build 254 #[]));refine BP rfl 254 rfl Z HZ.out.2.2.2 ?_)
  | ((with_reducible show zOq (.store 254 _ _));refine AE rfl 254 _ _ rfl w.heap.size 0 Z rfl rfl (heap_alloc_new _ _) (by rw[CJ,HZ.out.2.1]) (by omega) HZ.out.2.2.1 Z (by rw[AI _ _ rfl]) ?_))
 exact AN (p:=4) rfl rfl (AF (heap_alloc_new _ _) _) Tryz.underlying254 rfl (by rw[CJ,HZ.out.2.1]) rfl ⟨rfl,((Ch.refl _ _).alloc _).setRow (.inr (Nat.le_refl _)) _⟩
end
end Go.Proofs.YtooijgcildbnlaaGreat.Store
namespace Go.Proofs.YtooijgcildbnlaaGreat
open Go.RowKit
theorem BH {P:Program} {w:World} {T:TypeId} {fs:Array Field} {N:Array Value} {i:Nat} {f:Field} {v:Value} (ht:P.underlying T=some (.struct fs)) (hf:fs[i]?=some f) (ha:(isAgg f.type).run P w=.ok false w) (hv:N[f.offset]?=some v) :
 (Instr.field T (.agg N) i).run P w=.ok v w:=by
 unfold Instr.field part;have hu:(Go.underlying T).run P w=.ok (.struct fs) w:=by simp[Go.underlying,ht,go_sem]
 simp only[Sem.run_bind,hu,Result.andThen_ok,hf,asAgg,Sem.run_pure,ha,hv];simp[go_sem]
theorem KZ {P:Program} {w:World} {T:TypeId} {fs:Array Field} {N:Array Value} {i:Nat} {f:Field} {n:Nat} (ht:P.underlying T=some (.struct fs)) (hf:fs[i]?=some f) (ha:(isAgg f.type).run P w=.ok true w) (hs:(Go.sizeOf f.type).run P w=.ok n w) {C:Array Value} (hv:N.extract f.offset (f.offset+n)=C) :
 (Instr.field T (.agg N) i).run P w=.ok (.agg C) w:=by
 unfold Instr.field part;have hu:(Go.underlying T).run P w=.ok (.struct fs) w:=by simp[Go.underlying,ht,go_sem]
 simp only[Sem.run_bind,hu,Result.andThen_ok,hf,asAgg,Sem.run_pure,ha];simp[hv,hs,go_sem]
end Go.Proofs.YtooijgcildbnlaaGreat
namespace Go.Proofs.YtooijgcildbnlaaGreat.Store
open Go.RowKit Go.Proofs.YtooijgcildbnlaaGreat.ShaW Go.Proofs.YtooijgcildbnlaaGreat.Path
section
variable {w w' : World} {b : Nat} {F : Nat→Prop} {ρ : Rs}
theorem S4 (h:RAt w b F ρ) (n:Int):Calls Tryz.prog 243 #[.pointer (some ⟨b,0,none⟩),.int .i64 n] w fun e w'=>e=.returned (.int .u8 ((ρ.sp n).kind:Nat))∧Adds w w':=by
 have hg:=CX h n;obtain⟨hok,ho,hs⟩:=h.1.ok n;obtain⟨N,hN⟩:∃N,N=(ρ.sp n).cells:=⟨_,rfl⟩
 have k0:=Sp.Av (x:=ρ.sp n);rw[←hN] at hg k0;have hfd:=fun w=>BH (P:=Tryz.prog) (w:=w) Tryz.underlying254 (i:=0) rfl (Tryz.isAgg113 w) k0
 have HG:=Lib.hid hg;clear hg hN hok ho hs h;go_enter Tryz.func243,Tryz.ntmps243;go_wp2_with fail;refine HG.out.mono ?_;rintro e w1 ⟨rfl,a1⟩;have A1:=Lib.hid a1;clear a1;go_wp2;go_ret;exact⟨rfl,A1.out⟩
theorem UN (h:RAt w b F ρ) (n:Int):Calls Tryz.prog 230 #[.pointer (some ⟨b,0,none⟩),.int .i64 n] w fun e w'=>e=.returned (.int .i64 (ρ.sp n).own)∧Adds w w':=by
 have hg:=CX h n;obtain⟨hok,ho,hs⟩:=h.1.ok n;obtain⟨N,hN⟩:∃N,N=(ρ.sp n).cells:=⟨_,rfl⟩
 have k0:=Sp.EZ hok;rw[←hN] at hg k0;have hfd:=fun w=>BH (P:=Tryz.prog) (w:=w) Tryz.underlying254 (i:=5) rfl (Tryz.isAgg3 w) k0
 have HG:=Lib.hid hg;clear hg hN hok ho hs h;go_enter Tryz.func230,Tryz.ntmps230;go_wp2_with fail;refine HG.out.mono ?_;rintro e w1 ⟨rfl,a1⟩;have A1:=Lib.hid a1;clear a1;go_wp2;go_ret;exact⟨rfl,A1.out⟩
def Rs.depth (ρ:Rs) (n:Int):Int:=if (ρ.sp n).kind=2 then (ρ.sp n).d else -1
theorem JI (h:RAt w b F ρ) (n:Int):Calls Tryz.prog 164 #[.pointer (some ⟨b,0,none⟩),.int .i64 n] w fun e w'=>e=.returned (.int .i64 (ρ.depth n))∧Adds w w':=by
 have hg:=fun w1 (a:Adds w w1)=>CX (h.adds a) n
 obtain⟨N,hN⟩:∃N,N=(ρ.sp n).cells:=⟨_,rfl⟩
 have k0:=Sp.Av (x:=ρ.sp n);have k1:=Sp.LI (x:=ρ.sp n);rw[←hN] at k0 k1;rw[←hN] at hg;unfold Rs.depth;obtain⟨kd,hkd⟩:∃kd,kd=(ρ.sp n).kind:=⟨_,rfl⟩
 obtain⟨d,hd⟩:∃d,d=(ρ.sp n).d:=⟨_,rfl⟩
 rw[←hkd] at k0 ⊢;rw[←hd] at k1 ⊢;have hf0:=fun w=>BH (P:=Tryz.prog) (w:=w) Tryz.underlying254 (i:=0) rfl (Tryz.isAgg113 w) k0
 have hf1:=fun w=>BH (P:=Tryz.prog) (w:=w) Tryz.underlying254 (i:=1) rfl (Tryz.isAgg3 w) k1
 have HG:=Lib.hid hg;clear hg hN h hkd hd;by_cases h2:kd=2
 · subst h2
   go_enter Tryz.func164,Tryz.ntmps164;go_wp2_with fail;refine(HG.out _ (Ch.refl _ _)).mono ?_;rintro e w1 ⟨rfl,a1⟩;have A1:=Lib.hid a1;clear a1;go_wp2_with fail;refine(HG.out _ A1.out).mono ?_;rintro e w2 ⟨rfl,a2⟩;have A2:=Lib.hid (A1.out.trans a2 (fun _=>fEq));clear a2;go_wp2;go_ret;exact⟨rfl,A2.out⟩
 have h2':¬((kd:Nat):Int)=2:=by omega
 rw[if_neg h2];go_enter Tryz.func164,Tryz.ntmps164;go_wp2_with fail;refine(HG.out _ (Ch.refl _ _)).mono ?_;rintro e w1 ⟨rfl,a1⟩;have A1:=Lib.hid a1;clear a1;go_wp2;go_ret;exact⟨rfl,A1.out⟩
theorem Q6 (h:RAt w b F ρ) (n:Int):Calls Tryz.prog 183 #[.pointer (some ⟨b,0,none⟩),.int .i64 n] w fun e w'=>e=.returned (.tuple #[.int .i64 (ρ.sp n).left,.int .i64 (ρ.sp n).right])∧Adds w w':=by
 have hg:=fun w1 (a:Adds w w1)=>CX (h.adds a) n
 obtain⟨hok,ho,hs⟩:=h.1.ok n;obtain⟨N,hN⟩:∃N,N=(ρ.sp n).cells:=⟨_,rfl⟩
 have k0:=Sp.E6 hok;have k1:=Sp.EJ hok;rw[←hN] at k0 k1;rw[←hN] at hg;have hf0:=fun w=>BH (P:=Tryz.prog) (w:=w) Tryz.underlying254 (i:=3) rfl (Tryz.isAgg3 w) k0
 have hf1:=fun w=>BH (P:=Tryz.prog) (w:=w) Tryz.underlying254 (i:=4) rfl (Tryz.isAgg3 w) k1
 have HG:=Lib.hid hg;clear hg hN hok ho hs h;go_enter Tryz.func183,Tryz.ntmps183;go_wp2_with fail;refine(HG.out _ (Ch.refl _ _)).mono ?_;rintro e w1 ⟨rfl,a1⟩;have A1:=Lib.hid a1;clear a1;go_wp2_with fail;refine(HG.out _ A1.out).mono ?_;rintro e w2 ⟨rfl,a2⟩;have A2:=Lib.hid (A1.out.trans a2 (fun _=>fEq));clear a2;go_wp2;go_ret2;exact⟨rfl,A2.out⟩
theorem I1 (h:RAt w b F ρ) (n:Int):Calls Tryz.prog 98 #[.pointer (some ⟨b,0,none⟩),.int .i64 n] w fun e w'=>e=.returned (.int .i64 ((ρ.sp n).own+(ρ.sp n).sides))∧Adds w w':=by
 have hg:=fun w1 (a:Adds w w1)=>CX (h.adds a) n
 obtain⟨hok,ho,hs⟩:=h.1.ok n;obtain⟨N,hN⟩:∃N,N=(ρ.sp n).cells:=⟨_,rfl⟩
 have k0:=Sp.EZ hok;have k1:=Sp.Gg hok;rw[←hN] at k0 k1;rw[←hN] at hg;obtain⟨x,hx⟩:∃x,x=(ρ.sp n).own:=⟨_,rfl⟩
 obtain⟨y,hy⟩:∃y,y=(ρ.sp n).sides:=⟨_,rfl⟩
 rw[←hx] at k0 ho ⊢;rw[←hy] at k1 hs ⊢;have hf0:=fun w=>BH (P:=Tryz.prog) (w:=w) Tryz.underlying254 (i:=5) rfl (Tryz.isAgg3 w) k0
 have hf1:=fun w=>BH (P:=Tryz.prog) (w:=w) Tryz.underlying254 (i:=6) rfl (Tryz.isAgg3 w) k1
 have hw:IntKind.i64.wrap (x+y)=x+y:=IntWalk.i64_in _ (by omega);have hw2:wrap64 (x+y)=x+y:=by unfold wrap64;omega
 have HG:=Lib.hid hg;clear hg hN hok ho hs h hx hy;go_enter Tryz.func98,Tryz.ntmps98;go_wp2_with fail;refine(HG.out _ (Ch.refl _ _)).mono ?_;rintro e w1 ⟨rfl,a1⟩;have A1:=Lib.hid a1;clear a1;go_wp2_with fail;refine(HG.out _ A1.out).mono ?_;rintro e w2 ⟨rfl,a2⟩;have A2:=Lib.hid (A1.out.trans a2 (fun _=>fEq));clear a2;go_wp2;go_ret;exact⟨by first|rfl|(simp[hw2];done),A2.out⟩
def Rs.An (ρ:Rs) (n:Int):Int:=if n=0 then 0 else if ρ.has n=false then 7 else if 0<ρ.depth n then 2 else 0
theorem Sk (h:RAt w b F ρ) (n:Int):Calls Tryz.prog 76 #[.pointer (some ⟨b,0,none⟩),.int .i64 n] w fun e w'=>e=.returned (.int .i64 (ρ.An n))∧Adds w w':=by
 have HN:=Lib.hid (Cl h);have hh:=EA h n;have hd:=JI h n;unfold Rs.An;obtain⟨d,hdd⟩:∃d,d=ρ.depth n:=⟨_,rfl⟩
 rw[←hdd] at hd ⊢;by_cases h0:n=0
 · subst h0
   clear hh hd hdd h;go_enter Tryz.func76,Tryz.ntmps76;go_wp2_with fail;refine HN.out.mono ?_;rintro e w1 ⟨rfl,rfl⟩;go_wp2;go_ret;exact⟨rfl,Ch.refl _ _⟩
 rw[if_neg h0];cases hb:ρ.has n with
 | false =>
  rw[hb] at hh;have HH:=Lib.hid hh;clear hh hd hdd h hb;go_enter Tryz.func76,Tryz.ntmps76;go_wp2_with fail;refine HN.out.mono ?_;rintro e w1 ⟨rfl,rfl⟩;go_wp2_with fail;refine HH.out.mono ?_;rintro e w1 ⟨rfl,rfl⟩;go_wp2;go_ret;exact⟨rfl,Ch.refl _ _⟩
 | true =>
  rw[hb] at hh;have HH:=Lib.hid hh;have HD:=Lib.hid hd;clear hh hd hdd h hb;rw[if_neg (by simp)];by_cases hp:0<d
  · have dp:decide ((0:Int)<d)=true:=decide_eq_true hp
    rw[if_pos hp];go_enter Tryz.func76,Tryz.ntmps76;go_wp2_with fail;refine HN.out.mono ?_;rintro e w1 ⟨rfl,rfl⟩;go_wp2_with fail;refine HH.out.mono ?_;rintro e w1 ⟨rfl,rfl⟩;go_wp2_with fail;refine HD.out.mono ?_;rintro e w1 ⟨rfl,a1⟩;have A1:=Lib.hid a1;clear a1;go_wp2;go_ret;exact⟨rfl,A1.out⟩
  have dp:decide ((0:Int)<d)=false:=decide_eq_false hp;rw[if_neg hp];go_enter Tryz.func76,Tryz.ntmps76;go_wp2_with fail;refine HN.out.mono ?_;rintro e w1 ⟨rfl,rfl⟩;go_wp2_with fail;refine HH.out.mono ?_;rintro e w1 ⟨rfl,rfl⟩;go_wp2_with fail;refine HD.out.mono ?_;rintro e w1 ⟨rfl,a1⟩;have A1:=Lib.hid a1;clear a1;go_wp2;go_ret;exact⟨rfl,A1.out⟩
end
section
variable {w w' : World} {b : Nat} {F : Nat→Prop} {ρ : Rs}
def Rs.Oa (ρ:Rs) (n:Int):Bool:=decide (n=0)||(ρ.has n&&decide (0<(ρ.sp n).own))
theorem Js (h:RAt w b F ρ) (n:Int):Calls Tryz.prog 239 #[.pointer (some ⟨b,0,none⟩),.int .i64 n] w fun e w'=>e=.returned (.bool (ρ.Oa n))∧Adds w w':=by
 have hh:=EA h n;have hg:=CX h n;obtain⟨hok,ho,hs⟩:=h.1.ok n;obtain⟨N,hN⟩:∃N,N=(ρ.sp n).cells:=⟨_,rfl⟩
 have k0:=Sp.EZ hok;rw[←hN] at hg k0;have hfd:=fun w=>BH (P:=Tryz.prog) (w:=w) Tryz.underlying254 (i:=5) rfl (Tryz.isAgg3 w) k0
 unfold Rs.Oa;obtain⟨x,hx⟩:∃x,x=(ρ.sp n).own:=⟨_,rfl⟩
 rw[←hx] at hfd ⊢;have HG:=Lib.hid hg;by_cases h0:n=0
 · subst h0
   clear hh hg hok ho hs hN k0 hfd hx h;go_enter Tryz.func239,Tryz.ntmps239;go_wp2;go_ret;exact⟨rfl,Ch.refl _ _⟩
 rw[decide_eq_false h0,Bool.false_or];have h0b:(n == 0)=false:=by simpa using h0
 cases hb:ρ.has n with
 | false =>
  rw[hb] at hh;have HH:=Lib.hid hh;clear hh hg hok ho hs hN k0 hfd hx h hb;go_enter Tryz.func239,Tryz.ntmps239;go_wp2_with fail;refine HH.out.mono ?_;rintro e w1 ⟨rfl,rfl⟩;go_wp2;go_ret;exact⟨rfl,Ch.refl _ _⟩
 | true =>
  rw[hb] at hh;have HH:=Lib.hid hh;rw[Bool.true_and];obtain⟨d,hd⟩:∃d,d=decide (0<x):=⟨_,rfl⟩
  rw[←hd];clear hh hg hok ho hs hN k0 hx h hb;cases d
  · have hd':decide ((0:Int)<x)=false:=hd.symm
    clear hd;go_enter Tryz.func239,Tryz.ntmps239;go_wp2_with fail;refine HH.out.mono ?_;rintro e w1 ⟨rfl,rfl⟩;go_wp2_with fail;refine HG.out.mono ?_;rintro e w1 ⟨rfl,a1⟩;have A1:=Lib.hid a1;clear a1;go_wp2;go_ret;exact⟨rfl,A1.out⟩
  have hd':decide ((0:Int)<x)=true:=hd.symm;clear hd;go_enter Tryz.func239,Tryz.ntmps239;go_wp2_with fail;refine HH.out.mono ?_;rintro e w1 ⟨rfl,rfl⟩;go_wp2_with fail;refine HG.out.mono ?_;rintro e w1 ⟨rfl,a1⟩;have A1:=Lib.hid a1;clear a1;go_wp2;go_ret;exact⟨rfl,A1.out⟩
def Rs.Fa (ρ:Rs):Bool:=decide (ρ.free.length=0)&&decide (ρ.space≤ρ.spots.length)
theorem Ik (h:RAt w b F ρ):Calls Tryz.prog 235 #[.pointer (some ⟨b,0,none⟩)] w fun e w'=>e=.returned (.bool ρ.Fa)∧Adds w w':=by
 obtain⟨h0,vs,vf,h1,h2,h3,_⟩:=h;obtain⟨ao,cap,rfl⟩:=Ar h2;obtain⟨af,capf,rfl⟩:=Ar h3;have c1:=AG h1 (i:=1) rfl;have c2:=AG h1 (i:=2) rfl;have c3:=AG h1 (i:=3) rfl;unfold Rs.Fa;obtain⟨S,hS⟩:∃S,S=ρ.space:=⟨_,rfl⟩
 obtain⟨L,hL⟩:∃L,L=ρ.spots.length:=⟨_,rfl⟩
 obtain⟨Fl,hF⟩:∃L,L=ρ.free.length:=⟨_,rfl⟩
 rw[←hS] at c1 ⊢;rw[←hL] at c2 ⊢;rw[←hF] at c3 ⊢;clear h0 h1 h2 h3 hS hL hF;by_cases hf:Fl=0
 · subst hf
   by_cases hl:S≤L
   · have d1:decide ((S:Int)≤(L:Int))=true:=decide_eq_true (by omega)
     rw[decide_eq_true hl];have HLL:=Lib.hid hl;clear hl;go_enter Tryz.func235,Tryz.ntmps235;go_wp2;go_quiet (fail);go_wp2;go_ret;exact⟨by simp[HLL.out],(Ch.refl _ _).drewN _⟩
   have d1:decide ((S:Int)≤(L:Int))=false:=decide_eq_false (by omega);rw[decide_eq_false hl];have HLL:=Lib.hid hl;clear hl;go_enter Tryz.func235,Tryz.ntmps235;go_wp2;go_quiet (fail);go_wp2;go_ret;exact⟨by simp[HLL.out],(Ch.refl _ _).drewN _⟩
 have d1:¬((Fl:Nat):Int)=0:=by omega
 rw[decide_eq_false hf];have d2:((Fl:Int) == 0)=false:=by simpa using d1
 go_enter Tryz.func235,Tryz.ntmps235;go_wp2;go_quiet (fail);go_wp2;go_ret;exact⟨rfl,(Ch.refl _ _).drewN _⟩
end
end Go.Proofs.YtooijgcildbnlaaGreat.Store
