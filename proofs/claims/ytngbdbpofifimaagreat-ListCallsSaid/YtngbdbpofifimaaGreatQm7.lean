/- Laws of the layers below. -/
import Derived.Test.YtngbdbpofifimaaGreatQm4
import Derived.Test.YtngbdbpofifimaaGreatQm6
import Derived.Test.YtngbdbpofifimaaGreatQm2
set_option maxHeartbeats 3200000
set_option maxRecDepth 100000
set_option linter.unusedVariables false
namespace Go.Proofs.YtngbdbpofifimaaGreat
open Go.RowKit
namespace AG
def map {α β:Type} (f:α→β) (σ:AG α):AG β:=⟨σ.room,σ.slots.map (fun s=>(f s.1,s.2)),σ.free⟩
variable {α β : Type} (f : α→β) (σ : AG α)
theorem Ms:(σ.map f).used=σ.used:=by simp[used,map]
theorem GP (n:Int):(σ.map f).get? n=(σ.get? n).map (fun s=>(f s.1,s.2)):=by
 unfold get?;split
 · simp only[map,List.getElem?_map]
   cases σ.slots[(n-1).toNat]? with
   | none=>rfl
   | some s =>
    simp only[Option.map_some,Option.filter];by_cases h:s.2 != 0<;>simp[h]
 rfl
theorem Ir (n:Int) (s:α×Nat):(σ.map f).setAt n (f s.1,s.2)=(σ.setAt n s).map f:=by
 simp[map,setAt,List.map_set]
theorem map_take (x:α):(σ.map f).take (f x)=((σ.take x).1,(σ.take x).2.1,(σ.take x).2.2.map f):=by
 unfold take;rw[Ms];have hr:(σ.map f).room=σ.room:=rfl;have hf:(σ.map f).free=σ.free:=rfl;rw[hr,hf];split
 · rfl
 cases σ.free.getLast? with
 | none=>simp[map]
 | some n=>simp[map,List.map_set]
theorem Rx (n:Int):(σ.map f).hold n=((σ.hold n).1,(σ.hold n).2.map f):=by
 unfold hold;rw[GP];cases hs:σ.get? n with
 | none=>rfl
 | some s =>
  simp only[Option.map_some];split
  · rfl
  exact Prod.ext rfl (Ir f σ n (s.1,s.2+1))
theorem map_drop (z:α) (n:Int):(σ.map f).drop (f z) n=((σ.drop z n).1,(σ.drop z n).2.1,(σ.drop z n).2.2.map f):=by
 unfold drop;rw[GP];cases hs:σ.get? n with
 | none=>rfl
 | some s =>
  simp only[Option.map_some];split
  · simp[map,setAt,List.map_set]
  exact Prod.ext rfl (Prod.ext rfl (Ir f σ n (s.1,s.2-1)))
theorem map_set (n:Int) (x:α):(σ.map f).set n (f x)=((σ.set n x).1,(σ.set n x).2.map f):=by
 unfold set;rw[GP];cases hs:σ.get? n with
 | none=>rfl
 | some s=>exact Prod.ext rfl (Ir f σ n (x,s.2))
end AG
structure Nd where
 digest:List UInt8
 kind:Nat
 depth:Int
 key:List UInt8
 addr:Value
 value:List UInt8
 hash:List UInt8
 left:Int
 right:Int
 size:Int
 held:Int
namespace Nd
def z32:List UInt8:=List.replicate 32 0
def zero:Nd:=⟨z32,0,0,z32,.slice none 0 0,[],z32,0,0,0,0⟩
def cells (n:Nd):Array Value:=(n.digest.map bv++(.int .u8 (n.kind:Nat)::.int .i64 n.depth::(n.key.map bv++(n.addr::(n.hash.map bv ++ [.int .i64 n.left,.int .i64 n.right,.int .i64 n.size,.int .i64 n.held]))))).toArray
def enc (n:Nd):Value:=.agg n.cells
structure Ok (n:Nd):Prop where
 digest:n.digest.length=32
 key:n.key.length=32
 hash:n.hash.length=32
 addr:∃ao len cap,n.addr=.slice ao len cap
 val:n.value.length≤1024
theorem BP:zero.Ok:=⟨rfl,rfl,rfl,⟨none,0,0,rfl⟩,by decide⟩
variable {n : Nd}
theorem AY (h:n.Ok):n.cells.size=103:=by simp[cells,h.digest,h.key,h.hash]
theorem Aj:n.cells.toList=n.digest.map bv++(.int .u8 (n.kind:Nat)::.int .i64 n.depth::(n.key.map bv++(n.addr::(n.hash.map bv ++ [.int .i64 n.left,.int .i64 n.right,.int .i64 n.size,.int .i64 n.held])))):=rfl
theorem Ar (h:n.Ok):n.cells[32]?=some (.int .u8 (n.kind:Nat)):=by
 rw[←Array.getElem?_toList,Aj,List.getElem?_append_right (by simp[h.digest])];simp[h.digest]
theorem IC (h:n.Ok):n.cells[33]?=some (.int .i64 n.depth):=by
 rw[←Array.getElem?_toList,Aj,List.getElem?_append_right (by simp[h.digest])];simp[h.digest]
theorem Pa (h:n.Ok) (i:Nat):n.cells[66+i]?=(n.addr::(n.hash.map bv ++ [.int .i64 n.left,.int .i64 n.right,.int .i64 n.size,.int .i64 n.held]))[i]?:=by
 rw[←Array.getElem?_toList,Aj,List.getElem?_append_right (by simp[h.digest];omega)];simp only[List.length_map,h.digest];rw[show 66+i-32=(32+i)+1+1 by omega,List.getElem?_cons_succ,List.getElem?_cons_succ,List.getElem?_append_right (by simp[h.key])];simp[h.key]
theorem PV (h:n.Ok):n.cells[66]?=some n.addr:=Pa h 0
theorem Fg (h:n.Ok) (i:Nat):n.cells[99+i]? = [Value.int .i64 n.left,.int .i64 n.right,.int .i64 n.size,.int .i64 n.held][i]?:=by
 rw[show 99+i=66+(32+i+1) by omega,Pa h,List.getElem?_cons_succ,List.getElem?_append_right (by simp[h.hash])];simp[h.hash]
theorem Ge (h:n.Ok):n.cells[99]?=some (.int .i64 n.left):=Fg h 0
theorem E8 (h:n.Ok):n.cells[100]?=some (.int .i64 n.right):=Fg h 1
theorem L6 (h:n.Ok):n.cells[101]?=some (.int .i64 n.size):=Fg h 2
theorem GY (h:n.Ok):n.cells[102]?=some (.int .i64 n.held):=Fg h 3
theorem QR (h:n.Ok):n.cells.extract 0 (0+32)=AS n.digest:=by
 apply Array.ext';simp only[Array.toList_extract,List.extract,Aj,AS,List.drop_zero];rw[List.take_append_of_le_length (by simp[h.digest]),List.take_of_length_le (by simp[h.digest])]
theorem Be (h:n.Ok):n.cells.extract 34 (34+32)=AS n.key:=by
 apply Array.ext';simp only[Array.toList_extract,List.extract,Aj,AS];rw[List.drop_append,List.drop_eq_nil_of_le (by simp[h.digest]),List.nil_append,List.length_map,h.digest];simp only[show 34-32=2 by rfl,List.drop_succ_cons,List.drop_zero];rw[List.take_append_of_le_length (by simp[h.key]),List.take_of_length_le (by simp[h.key])]
theorem Sg (h:n.Ok) (x:Int):n.cells.setIfInBounds 102 (.int .i64 x)=({ n with held:=x }:Nd).cells:=by
 apply Array.ext';simp only[Array.toList_setIfInBounds,Aj];rw[List.set_append_right _ _ (by simp[h.digest]),List.length_map,h.digest];simp only[show 102-32=68+1+1 by rfl,List.set_cons_succ];rw[List.set_append_right _ _ (by simp[h.key]),List.length_map,h.key];simp only[show 68-32=35+1 by rfl,List.set_cons_succ];rw[List.set_append_right _ _ (by simp[h.hash]),List.length_map,h.hash];rfl
theorem cells_one (h:n.Ok):∀v∈n.cells.toList,v.oneCell'=true:=fun v hv=>by
 obtain⟨ao,len,cap,ha⟩:=h.addr;rw[Aj] at hv;simp only[List.mem_append,List.mem_cons,List.not_mem_nil,or_false] at hv;rcases hv with hv|rfl|rfl|hv|rfl|hv|rfl|rfl|rfl|rfl
 · exact DI _ v hv
 · rfl
 · rfl
 · exact DI _ v hv
 · rw[ha];rfl
 · exact DI _ v hv
 all_goals rfl
theorem OR (h:n.Ok):SlabN.OkV n.enc:=⟨n.cells,rfl,AY h,cells_one h⟩
theorem NS:SlabN.zero=zero.enc:=by
 have h:(Tryz.prog.info? 168).bind (·.zero)=some zero.enc:=by kernel_rfl
 have:=SlabN.Lz.symm.trans h;exact Option.some.inj this
end Nd
end Go.Proofs.YtngbdbpofifimaaGreat
namespace Go.Proofs.YtngbdbpofifimaaGreat.Store
open Go.RowKit
def At (w:World) (s:Nat) (F:Nat→Prop) (σ:AG Nd):Prop :=
 ∃a G,w.heap[s]?=some (.cells #[.pointer (some ⟨a,0,none⟩)] 174 (0,0))∧SlabN.At SlabN.OkV w a G (σ.map Nd.enc) ∧
  (∀(m:Nat) (n:Nd) (c:Nat),σ.slots[m]?=some (n,c)→n.Ok∧Bytes w n.addr n.value∧∀k,n.addr.ownBlock=some k→F k∧k≠s∧¬G k) ∧
  F s∧(∀k,G k→F k∧k≠s)∧(∀k,F k→k<w.heap.size)
abbrev AN (w w':World):Prop:=Ch (fun _=>False) w w'
def BF (w w':World) (s:Nat) (F:Nat→Prop) (σ:AG Nd):Prop:=∃F',At w' s F' σ∧Ch F w w'∧∀k,F' k→F k∨w.heap.size≤k
theorem At.Ae {w w':World} {s:Nat} {F C:Nat→Prop} {σ:AG Nd} (h:At w s F σ) (hc:Ch C w w') (hd:∀k,F k→¬C k):At w' s F σ:=by
 obtain⟨a,G,h1,h2,h3,h4,h5,h6⟩:=h;exact⟨a,G,hc.row h1 (hd s h4),h2.Ae hc (fun k hk=>hd k (h5 k hk).1),fun m n c hs=>⟨(h3 m n c hs).1,(h3 m n c hs).2.1.Ae hc (fun k hk=>hd k ((h3 m n c hs).2.2 k hk).1),(h3 m n c hs).2.2⟩,h4,h5,fun k hk=>Nat.lt_of_lt_of_le (h6 k hk) hc.size⟩
theorem At.adds {w w':World} {s:Nat} {F:Nat→Prop} {σ:AG Nd} (h:At w s F σ) (hc:AN w w'):At w' s F σ:=h.Ae hc (fun _ _ h=>h)
theorem BF.same {w w':World} {s:Nat} {F:Nat→Prop} {σ:AG Nd} (h:At w s F σ) (hc:AN w w'):BF w w' s F σ :=
 ⟨F,h.adds hc,hc.mono (fun _ _ h=>h.elim),fun k hk=>.inl hk⟩
theorem At.wf {w:World} {s:Nat} {F:Nat→Prop} {σ:AG Nd} (h:At w s F σ):(σ.map Nd.enc).WF SlabN.OkV:=by
 obtain⟨a,G,h1,h2,_⟩:=h;exact h2.1
theorem At.room {w:World} {s:Nat} {F:Nat→Prop} {σ:AG Nd} (h:At w s F σ):1≤σ.room∧σ.room≤65536:=h.wf.room
theorem At.len {w:World} {s:Nat} {F:Nat→Prop} {σ:AG Nd} (h:At w s F σ):σ.slots.length≤σ.room:=by
 have:=h.wf.len;simpa[AG.map] using this
theorem At.node {w:World} {s:Nat} {F:Nat→Prop} {σ:AG Nd} (h:At w s F σ) {n:Int} {x:Nd×Nat} (hx:σ.get? n=some x):x.1.Ok∧Bytes w x.1.addr x.1.value∧∀k,x.1.addr.ownBlock=some k→F k:=by
 obtain⟨a,G,h1,h2,h3,_⟩:=h;obtain⟨m,_,hs,_,_⟩:=AG.Ac hx;obtain⟨n,c⟩:=x;exact⟨(h3 m n c hs).1,(h3 m n c hs).2.1,fun k hk=>((h3 m n c hs).2.2 k hk).1⟩
def nd (σ:AG Nd) (h:Int):Nd:=((σ.get? h).map (·.1)).getD Nd.zero
def has (σ:AG Nd) (h:Int):Bool:=(σ.get? h).isSome
theorem At.ok {w:World} {s:Nat} {F:Nat→Prop} {σ:AG Nd} (h:At w s F σ) (n:Int):(nd σ n).Ok:=by
 unfold nd;cases hs:σ.get? n with
 | none=>exact Nd.BP
 | some x=>exact(h.node hs).1
theorem At.bytes {w:World} {s:Nat} {F:Nat→Prop} {σ:AG Nd} (h:At w s F σ) (n:Int):Bytes w (nd σ n).addr (nd σ n).value:=by
 unfold nd;cases hs:σ.get? n with
 | none=>exact Bytes.nil w
 | some x=>exact(h.node hs).2.1
theorem BF.from {w0 w w':World} {s:Nat} {F F':Nat→Prop} {σ:AG Nd} (ha:AN w0 w) (hm:BF w w' s F' σ) (hF:∀k,F' k→F k∨w0.heap.size≤k):BF w0 w' s F σ:=by
 obtain⟨F2,h1,h2,h3⟩:=hm;exact⟨F2,h1,(ha.mono (G:=F) (fun _ _ h=>h.elim)).trans h2 hF,fun k hk=>(h3 k hk).elim (hF k) (fun h=>.inr (Nat.le_trans ha.size h))⟩
theorem lift {w w':World} {s a:Nat} {F G:Nat→Prop} {σ':AG Nd} (h1:w.heap[s]?=some (.cells #[.pointer (some ⟨a,0,none⟩)] 174 (0,0)))
 (h4:F s) (h5:∀k,G k→F k∧k≠s) (h6:∀k,F k→k<w.heap.size) (hm:SlabN.BF w w' a G (σ'.map Nd.enc))
 (hn:∀(m:Nat) (n:Nd) (c:Nat),σ'.slots[m]?=some (n,c)→n.Ok∧Bytes w n.addr n.value∧∀k,n.addr.ownBlock=some k→F k∧k≠s∧¬G k):BF w w' s F σ':=by
 obtain⟨G',g1,g2,g3⟩:=hm;have hsz:=g2.size;refine⟨fun k=>F k∨(w.heap.size≤k∧k<w'.heap.size),⟨a,G',g2.row h1 (fun h=>(h5 s h).2 rfl),g1,fun m n c hs=>?_,.inl h4,fun k hk=>?_,fun k hk=>?_⟩,g2.mono (fun k _ hk=>(h5 k hk).1),fun k hk=>hk.imp id (fun h=>h.1)⟩
 · obtain⟨q1,q2,q3⟩:=hn m n c hs
   refine⟨q1,q2.Ae g2 (fun k hk=>(q3 k hk).2.2),fun k hk=>⟨.inl (q3 k hk).1,(q3 k hk).2.1,fun hg=>?_⟩⟩;rcases g3 k hg with h|h
   · exact(q3 k hk).2.2 h
   have:=h6 k (q3 k hk).1;omega
 · have hlt:k<w'.heap.size:=by
    obtain⟨_,_,_,_,_,_,_,_,_,hall⟩:=g1;exact hall k hk
   rcases g3 k hk with h|h
   · exact⟨.inl (h5 k h).1,(h5 k h).2⟩
   exact⟨.inr ⟨h,hlt⟩,fun e=>by have:=h6 s h4;omega⟩
 rcases hk with h|h
 · exact Nat.lt_of_lt_of_le (h6 k h) hsz
 exact h.2
theorem An {w:World} {s a:Nat} (h:w.heap[s]?=some (.cells #[.pointer (some ⟨a,0,none⟩)] 174 (0,0))) :
 Calls Tryz.prog 88 #[.pointer (some ⟨s,0,none⟩)] w fun e w'=>e=.returned (.bool false)∧w=w':=by
 have c0:=AH h (i:=0) rfl;clear h;go_enter Tryz.func88,Tryz.ntmps88;go_wp2;go_ret;exact⟨rfl,rfl⟩
theorem Ts:(Tryz.prog.info? 168).bind (·.zero)=some (.agg Nd.zero.cells):=by kernel_rfl
theorem BW:(Tryz.prog.info? 168).map (·.size)=some 103:=by kernel_rfl
theorem Cu {w:World} {s:Nat} {F:Nat→Prop} {σ:AG Nd} (h:At w s F σ) (n:Int) :
 Calls Tryz.prog 89 #[.pointer (some ⟨s,0,none⟩),.int .i64 n] w fun e w'=>e=.returned (.tuple #[.agg (nd σ n).cells,.bool (has σ n)])∧AN w w':=by
 have hok:=h.ok n;obtain⟨a,G,h1,h2,h3,h4,h5,h6⟩:=h;have hg:=SlabN.Tk h2 n
 have e1:SlabN.got (σ.map Nd.enc) n=.agg (nd σ n).cells:=by
  unfold SlabN.got nd;rw[AG.GP];cases σ.get? n with
  | none=>exact Nd.NS
  | some x=>rfl
 have e2:SlabN.KN (σ.map Nd.enc) n=if has σ n then 0 else 7:=by
  unfold SlabN.KN has;rw[AG.GP];cases σ.get? n<;>rfl
 rw[e1,e2] at hg;obtain⟨N,hN⟩:∃N,N=(nd σ n).cells:=⟨_,rfl⟩
 have hNs:N.size=103:=by rw[hN];exact Nd.AY hok
 have hN1:∀v∈N.toList,v.oneCell'=true:=by rw[hN];exact Nd.cells_one hok
 obtain⟨Z,hZ⟩:∃Z,Z=Nd.zero.cells:=⟨_,rfl⟩
 have hz:=Ts;have hZs:Z.size=103:=by rw[hZ];rfl
 rw[←hZ] at hz;rw[←hN] at hg ⊢;obtain⟨b,hb⟩:∃b,b=has σ n:=⟨_,rfl⟩
 rw[←hb] at hg ⊢;have hrow:(w.alloc (.cells Z 168)).heap[s]?=some (.cells #[.pointer (some ⟨a,0,none⟩)] 174 (0,0)):=AQ h1 _;have hcall:=SlabN.Tk (h2.Ae ((Ch.refl (fun _=>False) w).alloc (.cells Z 168)) (fun _ _ h=>h)) n;rw[e1,e2, ←hN, ←hb] at hcall;have HR:=Lib.hid hrow;have HC:=Lib.hid hcall;have HN:=(hIq hNs hN1)
 have HZ:=(hIq hz hZs)
 have c0:=AH hrow (i:=0) rfl;clear h1 h2 h3 h4 h5 h6 hg e1 e2 hN hNs hN1 hZ hz hZs hb hrow hcall hok;cases b
 all_goals
  go_enter Tryz.func89,Tryz.ntmps89;go_wp2_with (first|((with_reducible show zOq (.alloc 168));refine AO rfl 168 rfl (.agg Z) HZ.out.1 ?_;dsimp only[Value.cells];try simp only[World.size_alloc]));refine(An HR.out).mono ?_;rintro e w1 ⟨rfl,rfl⟩;go_wp2_with fail;refine HC.out.mono ?_;rintro e w2 ⟨rfl,hc2⟩;have hz2:=hc2.row (heap_alloc_new w (.cells Z 168)) id;have hw2:=((Ch.refl (fun _=>False) w).alloc (.cells Z 168)).trans hc2 (fun _=>fEq);have hlt:=Ad hz2;have Z2:=Lib.hid hz2;have W2:=Lib.hid hw2;clear hc2 hz2 hw2
  go_wp2_with (first
   | ((with_reducible show zOq (.alloc 168));refine AO rfl 168 rfl (.agg Z) HZ.out.1 ?_;dsimp only[Value.cells];try simp only[World.size_alloc])
   | ((with_reducible show zOq (.store 168 (.tmp 6) _));go_must (refine AI rfl 168 _ _ rfl w2.heap.size 0 N rfl rfl (heap_alloc_new _ _) (by rw[BW,HN.out.1]) (by rw[HN.out.1,HZ.out.2];omega) HN.out.2 N (by rw[AT _ _ (by rw[Array.length_toList,Array.length_toList,HN.out.1,HZ.out.2])]) ?_))
   | ((with_reducible show zOq (.load 168 _));refine AJ rfl 168 _ rfl w2.heap.size 0 rfl (AK (heap_alloc_new _ _) _) Tryz.underlying168 rfl BW (by rw[HN.out.1];omega) N (by simp[←HN.out.1]) ?_)
   | ((with_reducible show zOq (.store 168 (.tmp 4) _));go_must (refine AI rfl 168 _ _ rfl w.heap.size 0 N rfl rfl (row_setRow (AQ Z2.out _) (by omega) _) (by rw[BW,HN.out.1]) (by rw[HN.out.1,HZ.out.2];omega) HN.out.2 N (by rw[AT _ _ (by rw[Array.length_toList,Array.length_toList,HN.out.1,HZ.out.2])]) ?_)))
  have hws:=W2.out.size;exact Al (p:=4) (u:=5) rfl rfl (AK (row_setRow (AQ Z2.out _) (by omega) _) _) Tryz.underlying168 rfl (by rw[BW,HN.out.1]) rfl ⟨rfl,((W2.out.alloc _).setRow (.inr hws) _).setRow (.inr (Nat.le_refl _)) _⟩
theorem told {w:World} {s:Nat} {F:Nat→Prop} {σ:AG Nd} (h:At w s F σ) (n:Int):∃N Z:Array Value,N=(nd σ n).cells∧(N.size=103∧∀v∈N.toList,v.oneCell'=true)∧((Tryz.prog.info? 168).bind (·.zero)=some (.agg Z)∧Z.size=103) :=
 ⟨_,_,rfl,⟨Nd.AY (h.ok n),Nd.cells_one (h.ok n)⟩,Ts,rfl⟩
theorem IQ {w:World} {s:Nat} {F:Nat→Prop} {σ:AG Nd} (h:At w s F σ) (n:Int) :
 Calls Tryz.prog 162 #[.pointer (some ⟨s,0,none⟩),.int .i64 n] w fun e w'=>e=.returned (.int .u8 ((nd σ n).kind:Nat))∧AN w w':=by
 have hok:=h.ok n;have hg:=Cu h n;obtain⟨N,Z,hN,hn,hz⟩:=told h n;rw[←hN] at hg;have k0:N[32]?=some (.int .u8 ((nd σ n).kind:Nat)):=by rw[hN];exact Nd.Ar hok
 have HG:=Lib.hid hg;have HN:=Lib.hid hn;have HZ:=Lib.hid hz;clear hok hg hN hn hz h;go_enter Tryz.func162,Tryz.ntmps162;go_wp2_with fail;refine HG.out.mono ?_;rintro e w1 ⟨rfl,hc1⟩;have c0:=AH (AK (heap_alloc_new w1 (.cells Z 168)) N) k0;have C1:=Lib.hid hc1;clear hc1 k0;go_wp2_with (first|((with_reducible show zOq (.alloc 168));refine AO rfl 168 rfl (.agg Z) HZ.out.1 ?_;dsimp only[Value.cells];try simp only[World.size_alloc])|((with_reducible show zOq (.store 168 (.tmp 5) _));go_must (refine AI rfl 168 _ _ rfl w1.heap.size 0 N rfl rfl (heap_alloc_new _ _) (by rw[BW,HN.out.1]) (by rw[HN.out.1,HZ.out.2];omega) HN.out.2 N (by rw[AT _ _ (by rw[Array.length_toList,Array.length_toList,HN.out.1,HZ.out.2])]) ?_)));go_ret;exact⟨rfl,(C1.out.alloc _).setRow (.inr C1.out.size) _⟩
theorem FU {w:World} {s:Nat} {F:Nat→Prop} {σ:AG Nd} (h:At w s F σ) (n:Int) :
 Calls Tryz.prog 160 #[.pointer (some ⟨s,0,none⟩),.int .i64 n] w fun e w'=>e=.returned (.int .i64 (nd σ n).size)∧AN w w':=by
 have hok:=h.ok n;have hg:=Cu h n;obtain⟨N,Z,hN,hn,hz⟩:=told h n;rw[←hN] at hg;have k0:N[101]?=some (.int .i64 (nd σ n).size):=by rw[hN];exact Nd.L6 hok
 have HG:=Lib.hid hg;have HN:=Lib.hid hn;have HZ:=Lib.hid hz;clear hok hg hN hn hz h;go_enter Tryz.func160,Tryz.ntmps160;go_wp2_with fail;refine HG.out.mono ?_;rintro e w1 ⟨rfl,hc1⟩;have c0:=AH (AK (heap_alloc_new w1 (.cells Z 168)) N) k0;have C1:=Lib.hid hc1;clear hc1 k0;go_wp2_with (first|((with_reducible show zOq (.alloc 168));refine AO rfl 168 rfl (.agg Z) HZ.out.1 ?_;dsimp only[Value.cells];try simp only[World.size_alloc])|((with_reducible show zOq (.store 168 (.tmp 5) _));go_must (refine AI rfl 168 _ _ rfl w1.heap.size 0 N rfl rfl (heap_alloc_new _ _) (by rw[BW,HN.out.1]) (by rw[HN.out.1,HZ.out.2];omega) HN.out.2 N (by rw[AT _ _ (by rw[Array.length_toList,Array.length_toList,HN.out.1,HZ.out.2])]) ?_)));go_ret;exact⟨rfl,(C1.out.alloc _).setRow (.inr C1.out.size) _⟩
theorem Um {w:World} {s:Nat} {F:Nat→Prop} {σ:AG Nd} (h:At w s F σ) (n:Int) :
 Calls Tryz.prog 202 #[.pointer (some ⟨s,0,none⟩),.int .i64 n] w fun e w'=>e=.returned (.int .i64 (nd σ n).held)∧AN w w':=by
 have hok:=h.ok n;have hg:=Cu h n;obtain⟨N,Z,hN,hn,hz⟩:=told h n;rw[←hN] at hg;have k0:N[102]?=some (.int .i64 (nd σ n).held):=by rw[hN];exact Nd.GY hok
 have HG:=Lib.hid hg;have HN:=Lib.hid hn;have HZ:=Lib.hid hz;clear hok hg hN hn hz h;go_enter Tryz.func202,Tryz.ntmps202;go_wp2_with fail;refine HG.out.mono ?_;rintro e w1 ⟨rfl,hc1⟩;have c0:=AH (AK (heap_alloc_new w1 (.cells Z 168)) N) k0;have C1:=Lib.hid hc1;clear hc1 k0;go_wp2_with (first|((with_reducible show zOq (.alloc 168));refine AO rfl 168 rfl (.agg Z) HZ.out.1 ?_;dsimp only[Value.cells];try simp only[World.size_alloc])|((with_reducible show zOq (.store 168 (.tmp 5) _));go_must (refine AI rfl 168 _ _ rfl w1.heap.size 0 N rfl rfl (heap_alloc_new _ _) (by rw[BW,HN.out.1]) (by rw[HN.out.1,HZ.out.2];omega) HN.out.2 N (by rw[AT _ _ (by rw[Array.length_toList,Array.length_toList,HN.out.1,HZ.out.2])]) ?_)));go_ret;exact⟨rfl,(C1.out.alloc _).setRow (.inr C1.out.size) _⟩
theorem GU {w:World} {s:Nat} {F:Nat→Prop} {σ:AG Nd} (h:At w s F σ) (n:Int) :
 Calls Tryz.prog 132 #[.pointer (some ⟨s,0,none⟩),.int .i64 n] w fun e w'=>e=.returned (.tuple #[.int .i64 (nd σ n).left,.int .i64 (nd σ n).right])∧AN w w':=by
 have hok:=h.ok n;have hg:=Cu h n;obtain⟨N,Z,hN,hn,hz⟩:=told h n;rw[←hN] at hg;have k0:N[99]?=some (.int .i64 (nd σ n).left):=by rw[hN];exact Nd.Ge hok
 have k1:N[100]?=some (.int .i64 (nd σ n).right):=by rw[hN];exact Nd.E8 hok
 have HG:=Lib.hid hg;have HN:=Lib.hid hn;have HZ:=Lib.hid hz;clear hok hg hN hn hz h;go_enter Tryz.func132,Tryz.ntmps132;go_wp2_with fail;refine HG.out.mono ?_;rintro e w1 ⟨rfl,hc1⟩;have c0:=AH (AK (heap_alloc_new w1 (.cells Z 168)) N) k0;have c1:=AH (AK (heap_alloc_new w1 (.cells Z 168)) N) k1;have C1:=Lib.hid hc1;clear hc1 k0 k1;go_wp2_with (first|((with_reducible show zOq (.alloc 168));refine AO rfl 168 rfl (.agg Z) HZ.out.1 ?_;dsimp only[Value.cells];try simp only[World.size_alloc])|((with_reducible show zOq (.store 168 (.tmp 6) _));go_must (refine AI rfl 168 _ _ rfl w1.heap.size 0 N rfl rfl (heap_alloc_new _ _) (by rw[BW,HN.out.1]) (by rw[HN.out.1,HZ.out.2];omega) HN.out.2 N (by rw[AT _ _ (by rw[Array.length_toList,Array.length_toList,HN.out.1,HZ.out.2])]) ?_)));go_quiet (fail);go_wp2;go_ret2;exact⟨rfl,((C1.out.alloc _).setRow (.inr C1.out.size) _).drewN _⟩
def depth (σ:AG Nd) (n:Int):Int:=if has σ n then (nd σ n).depth else -1
theorem Kg {w:World} {s:Nat} {F:Nat→Prop} {σ:AG Nd} (h:At w s F σ) (n:Int) :
 Calls Tryz.prog 173 #[.pointer (some ⟨s,0,none⟩),.int .i64 n] w fun e w'=>e=.returned (.int .i64 (depth σ n))∧AN w w':=by
 have hok:=h.ok n;have hg:=Cu h n;obtain⟨N,Z,hN,hn,hz⟩:=told h n;rw[←hN] at hg;have k0:N[33]?=some (.int .i64 (nd σ n).depth):=by rw[hN];exact Nd.IC hok
 unfold depth;generalize has σ n=b at hg;have HG:=Lib.hid hg;have HN:=Lib.hid hn;have HZ:=Lib.hid hz;clear hok hg hN hn hz h;cases b
 all_goals
  go_enter Tryz.func173,Tryz.ntmps173;go_wp2_with fail;refine HG.out.mono ?_;rintro e w1 ⟨rfl,hc1⟩;have c0:=AH (AK (heap_alloc_new w1 (.cells Z 168)) N) k0;have C1:=Lib.hid hc1;clear hc1 k0;go_wp2_with (first|((with_reducible show zOq (.alloc 168));refine AO rfl 168 rfl (.agg Z) HZ.out.1 ?_;dsimp only[Value.cells];try simp only[World.size_alloc])|((with_reducible show zOq (.store 168 (.tmp 5) _));go_must (refine AI rfl 168 _ _ rfl w1.heap.size 0 N rfl rfl (heap_alloc_new _ _) (by rw[BW,HN.out.1]) (by rw[HN.out.1,HZ.out.2];omega) HN.out.2 N (by rw[AT _ _ (by rw[Array.length_toList,Array.length_toList,HN.out.1,HZ.out.2])]) ?_)));go_ret;exact⟨rfl,(C1.out.alloc _).setRow (.inr C1.out.size) _⟩
def AX (σ:AG Nd) (n:Int):Int:=if n=0 then 0 else if has σ n=false then 7 else if (nd σ n).kind=2∧(nd σ n).depth≠0 then 2 else 0
theorem CU {w:World} {s:Nat} {F:Nat→Prop} {σ:AG Nd} (h:At w s F σ) (n:Int) :
 Calls Tryz.prog 84 #[.pointer (some ⟨s,0,none⟩),.int .i64 n] w fun e w'=>e=.returned (.int .i64 (AX σ n))∧AN w w':=by
 have hok:=h.ok n;have hg:=Cu h n;obtain⟨N,Z,hN,hn,hz⟩:=told h n;rw[←hN] at hg;have k0:N[32]?=some (.int .u8 ((nd σ n).kind:Nat)):=by rw[hN];exact Nd.Ar hok
 have k1:N[33]?=some (.int .i64 (nd σ n).depth):=by rw[hN];exact Nd.IC hok
 obtain⟨a,G,h1,h2⟩:=h;have HR:=Lib.hid h1;have HG:=Lib.hid hg;have HN:=Lib.hid hn;have HZ:=Lib.hid hz;clear hok hg hN hn hz h1 h2;by_cases h0:n=0
 · subst h0
   have e:AX σ 0=0:=rfl;rw[e];clear e k0 k1;go_enter Tryz.func84,Tryz.ntmps84;go_wp2_with fail;refine(An HR.out).mono ?_;rintro e w1 ⟨rfl,rfl⟩;go_wp2;go_ret;exact⟨rfl,Ch.refl _ _⟩
 have hn0:(n == 0)=false:=by simpa using h0
 by_cases hb:has σ n=false
 · have e:AX σ n=7:=by unfold AX;rw[if_neg h0,if_pos hb]
   rw[hb] at HG;rw[e];clear e hb k0 k1 h0;go_enter Tryz.func84,Tryz.ntmps84;go_wp2_with fail;refine(An HR.out).mono ?_;rintro e w1 ⟨rfl,rfl⟩;go_wp2_with fail;refine HG.out.mono ?_;rintro e w1 ⟨rfl,hc1⟩;have C1:=Lib.hid hc1;clear hc1;go_wp2_with (first|((with_reducible show zOq (.alloc 168));refine AO rfl 168 rfl (.agg Z) HZ.out.1 ?_;dsimp only[Value.cells];try simp only[World.size_alloc])|((with_reducible show zOq (.store 168 (.tmp 5) _));go_must (refine AI rfl 168 _ _ rfl w1.heap.size 0 N rfl rfl (heap_alloc_new _ _) (by rw[BW,HN.out.1]) (by rw[HN.out.1,HZ.out.2];omega) HN.out.2 N (by rw[AT _ _ (by rw[Array.length_toList,Array.length_toList,HN.out.1,HZ.out.2])]) ?_)));go_ret;exact⟨rfl,(C1.out.alloc _).setRow (.inr C1.out.size) _⟩
 have hbt:has σ n=true:=by simpa using hb
 rw[hbt] at HG;have e:AX σ n=if (nd σ n).kind=2∧(nd σ n).depth≠0 then 2 else 0:=by unfold AX;rw[if_neg h0,if_neg hb]
 rw[e];generalize (nd σ n).kind=kd at k0;generalize (nd σ n).depth=dp at k1;clear e hb hbt h0;by_cases h2:kd=2
 · subst h2
   by_cases hd:dp=0
   · subst hd
     go_enter Tryz.func84,Tryz.ntmps84;go_wp2_with fail;refine(An HR.out).mono ?_;rintro e w1 ⟨rfl,rfl⟩;go_wp2_with fail;refine HG.out.mono ?_;rintro e w1 ⟨rfl,hc1⟩;have c0:=AH (AK (heap_alloc_new w1 (.cells Z 168)) N) k0;have c1:=AH (AK (heap_alloc_new w1 (.cells Z 168)) N) k1;have C1:=Lib.hid hc1;clear hc1 k0 k1;go_wp2_with (first|((with_reducible show zOq (.alloc 168));refine AO rfl 168 rfl (.agg Z) HZ.out.1 ?_;dsimp only[Value.cells];try simp only[World.size_alloc])|((with_reducible show zOq (.store 168 (.tmp 5) _));go_must (refine AI rfl 168 _ _ rfl w1.heap.size 0 N rfl rfl (heap_alloc_new _ _) (by rw[BW,HN.out.1]) (by rw[HN.out.1,HZ.out.2];omega) HN.out.2 N (by rw[AT _ _ (by rw[Array.length_toList,Array.length_toList,HN.out.1,HZ.out.2])]) ?_)));go_ret;exact⟨rfl,(C1.out.alloc _).setRow (.inr C1.out.size) _⟩
   have hdb:(dp != 0)=true:=by simpa using hd
   have e:(if 2=2∧dp≠0 then (2:Int) else 0)=2:=if_pos ⟨rfl,hd⟩;rw[e];clear e hd;go_enter Tryz.func84,Tryz.ntmps84;go_wp2_with fail;refine(An HR.out).mono ?_;rintro e w1 ⟨rfl,rfl⟩;go_wp2_with fail;refine HG.out.mono ?_;rintro e w1 ⟨rfl,hc1⟩;have c0:=AH (AK (heap_alloc_new w1 (.cells Z 168)) N) k0;have c1:=AH (AK (heap_alloc_new w1 (.cells Z 168)) N) k1;have C1:=Lib.hid hc1;clear hc1 k0 k1;go_wp2_with (first|((with_reducible show zOq (.alloc 168));refine AO rfl 168 rfl (.agg Z) HZ.out.1 ?_;dsimp only[Value.cells];try simp only[World.size_alloc])|((with_reducible show zOq (.store 168 (.tmp 5) _));go_must (refine AI rfl 168 _ _ rfl w1.heap.size 0 N rfl rfl (heap_alloc_new _ _) (by rw[BW,HN.out.1]) (by rw[HN.out.1,HZ.out.2];omega) HN.out.2 N (by rw[AT _ _ (by rw[Array.length_toList,Array.length_toList,HN.out.1,HZ.out.2])]) ?_)));go_ret;exact⟨rfl,(C1.out.alloc _).setRow (.inr C1.out.size) _⟩
 have hkb:(((kd:Nat):Int) == 2)=false:=by simp;omega
 have e:(if kd=2∧dp≠0 then (2:Int) else 0)=0:=if_neg (fun h=>h2 h.1);rw[e];clear e h2;go_enter Tryz.func84,Tryz.ntmps84;go_wp2_with fail;refine(An HR.out).mono ?_;rintro e w1 ⟨rfl,rfl⟩;go_wp2_with fail;refine HG.out.mono ?_;rintro e w1 ⟨rfl,hc1⟩;have c0:=AH (AK (heap_alloc_new w1 (.cells Z 168)) N) k0;have c1:=AH (AK (heap_alloc_new w1 (.cells Z 168)) N) k1;have C1:=Lib.hid hc1;clear hc1 k0 k1;go_wp2_with (first|((with_reducible show zOq (.alloc 168));refine AO rfl 168 rfl (.agg Z) HZ.out.1 ?_;dsimp only[Value.cells];try simp only[World.size_alloc])|((with_reducible show zOq (.store 168 (.tmp 5) _));go_must (refine AI rfl 168 _ _ rfl w1.heap.size 0 N rfl rfl (heap_alloc_new _ _) (by rw[BW,HN.out.1]) (by rw[HN.out.1,HZ.out.2];omega) HN.out.2 N (by rw[AT _ _ (by rw[Array.length_toList,Array.length_toList,HN.out.1,HZ.out.2])]) ?_)));go_ret;exact⟨rfl,(C1.out.alloc _).setRow (.inr C1.out.size) _⟩
end Go.Proofs.YtngbdbpofifimaaGreat.Store
namespace Go.Proofs.YtngbdbpofifimaaGreat.Store
open Go.RowKit Go.Proofs.YtngbdbpofifimaaGreat.ShaW Go.Proofs.YtngbdbpofifimaaGreat.Path
theorem I3 {w:World} {s:Nat} {F:Nat→Prop} {σ:AG Nd} (h:At w s F σ) (n:Int) :
 Calls Tryz.prog 129 #[.pointer (some ⟨s,0,none⟩),.int .i64 n] w fun e w'=>e=.returned (.agg (AS (nd σ n).key))∧AN w w':=by
 have hok:=h.ok n;have hg:=fun w1 (hc:AN w w1)=>Cu (h.adds hc) n
 obtain⟨N,Z,hN,hn,hz⟩:=told h n;rw[←hN] at hg;have k0:N.extract 34 (34+32)=AS (nd σ n).key:=by rw[hN];exact Nd.Be hok
 obtain⟨Y,hY⟩:∃Y,Y=AS (List.replicate 32 0):=⟨_,rfl⟩
 have hzp:=Ft;rw[←hY] at hzp;have hYs:Y.size=32:=by rw[hY];rfl
 obtain⟨O,hO⟩:∃O,O=AS (nd σ n).key:=⟨_,rfl⟩
 have hos:O.size=32:=by rw[hO,AU,hok.key]
 have ho1:=BO (nd σ n).key;rw[←hO] at k0 ho1;have HG:=Lib.hid hg;have HN:=Lib.hid hn;have HZ:=Lib.hid hz;have HY:=(hIq hzp hYs)
 have HO:=(hIq hO (aIq hos ho1))
 have HK:=Lib.hid k0;clear hok hg hN hn hz h hY hzp hYs hO hos ho1 k0;go_enter Tryz.func129,Tryz.ntmps129;go_wp2_with (first|((with_reducible show zOq (.alloc 47));refine AO rfl 47 rfl (.agg Y) HY.out.1 ?_;dsimp only[Value.cells];try simp only[World.size_alloc]));refine(HG.out _ ((Ch.refl _ _).alloc _)).mono ?_;rintro e w1 ⟨rfl,hc1⟩;have hy1:=hc1.row (heap_alloc_new w (.cells Y 47)) id;have C1:=Lib.hid (((Ch.refl (fun _=>False) w).alloc (.cells Y 47)).trans hc1 (fun _=>fEq));have hlt:=Ad hy1;have HY1:=Lib.hid hy1;clear hc1 hy1
 go_wp2_with (first
  | ((with_reducible show zOq (.alloc 168));refine AO rfl 168 rfl (.agg Z) HZ.out.1 ?_;dsimp only[Value.cells];try simp only[World.size_alloc])
  | ((with_reducible show zOq (.store 168 (.tmp 5) _));go_must (refine AI rfl 168 _ _ rfl w1.heap.size 0 N rfl rfl (heap_alloc_new _ _) (by rw[BW,HN.out.1]) (by rw[HN.out.1,HZ.out.2];omega) HN.out.2 N (by rw[AT _ _ (by rw[Array.length_toList,Array.length_toList,HN.out.1,HZ.out.2])]) ?_))
  | ((with_reducible show zOq (.load 47 _));refine AJ rfl 47 _ rfl w1.heap.size 34 rfl (AK (heap_alloc_new _ _) _) Tryz.underlying47 rfl Ab (by rw[HN.out.1];omega) O HK.out ?_)
  | ((with_reducible show zOq (.store 47 _ _));refine AI rfl 47 _ _ rfl w.heap.size 0 O rfl rfl (row_setRow (AQ HY1.out _) (by omega) _) (by rw[Ab,HO.out.2.1]) (by rw[HO.out.2.1,HY.out.2];omega) HO.out.2.2 O (by rw[AT _ _ (by rw[Array.length_toList,Array.length_toList,HO.out.2.1,HY.out.2])]) ?_))
 have hws:=C1.out.size;exact Af (p:=4) rfl rfl (AK (row_setRow (AQ HY1.out _) (by omega) _) _) Tryz.underlying47 rfl (by rw[Ab,HO.out.2.1]) rfl ⟨by rw[HO.out.1],((C1.out.alloc _).setRow (.inr hws) _).setRow (.inr (Nat.le_refl _)) _⟩
def CB (σ:AG Nd) (n:Int):List UInt8:=if n=0 then Tag.Hi else (nd σ n).digest
theorem At.BM {w:World} {s:Nat} {F:Nat→Prop} {σ:AG Nd} (h:At w s F σ) (n:Int):(CB σ n).length=32:=by
 unfold CB;split
 · exact Tag.BM _ _
 exact(h.ok n).digest
theorem Lj {w:World} {s:Nat} {F:Nat→Prop} {σ:AG Nd} (h:At w s F σ) (n:Int) :
 Calls Tryz.prog 58 #[.pointer (some ⟨s,0,none⟩),.int .i64 n] w fun e w'=>e=.returned (.agg (AS (CB σ n)))∧AN w w':=by
 have hok:=h.ok n;have hg:=fun w1 (hc:AN w w1)=>Cu (h.adds hc) n
 obtain⟨N,Z,hN,hn,hz⟩:=told h n;rw[←hN] at hg;have k0:N.extract 0 (0+32)=AS (nd σ n).digest:=by rw[hN];exact Nd.QR hok
 obtain⟨Y,hY⟩:∃Y,Y=AS (List.replicate 32 0):=⟨_,rfl⟩
 have hzp:=JQ;rw[←hY] at hzp;have hYs:Y.size=32:=by rw[hY];rfl
 obtain⟨O,hO⟩:∃O,O=AS (CB σ n):=⟨_,rfl⟩
 have hos:O.size=32:=by rw[hO,AU,h.BM]
 have ho1:=BO (CB σ n);rw[←hO] at ho1;obtain⟨a,G,h1,_⟩:=h;have HR:=Lib.hid (AQ h1 (.cells Y 35));have HG:=Lib.hid hg;have HN:=Lib.hid hn;have HZ:=Lib.hid hz;have HY:=(hIq hzp hYs)
 have HO:=(hIq hO (aIq hos ho1))
 by_cases h0:n=0
 · subst h0
   have hE:=fun w=>Tag.Sw w
   rw[show AS Tag.Hi=O from hO.symm] at hE;have HE:=Lib.hid hE;clear hok hg hN hn hz hY hzp hYs hO hos ho1 k0 h1 hE;go_enter Tryz.func58,Tryz.ntmps58;go_wp2_with (first|((with_reducible show zOq (.alloc 35));refine AO rfl 35 rfl (.agg Y) HY.out.1 ?_;dsimp only[Value.cells];try simp only[World.size_alloc]));refine(An HR.out).mono ?_;rintro e w1 ⟨rfl,rfl⟩;go_wp2_with fail;refine(HE.out _).mono ?_;rintro e w1 ⟨rfl,hc1⟩;have hy1:=hc1.row (heap_alloc_new w (.cells Y 35)) id;have C1:=Lib.hid (((Ch.refl (fun _=>False) w).alloc (.cells Y 35)).trans hc1 (fun _=>fEq));have HY1:=Lib.hid hy1;clear hc1 hy1
   go_wp2_with (first
    | ((with_reducible show zOq (.store 35 _ _));refine AI rfl 35 _ _ rfl w.heap.size 0 O rfl rfl HY1.out (by rw[C7,HO.out.2.1]) (by rw[HO.out.2.1,HY.out.2];omega) HO.out.2.2 O (by rw[AT _ _ (by rw[Array.length_toList,Array.length_toList,HO.out.2.1,HY.out.2])]) ?_))
   exact Af (p:=4) rfl rfl (AK HY1.out _) Tryz.underlying35 rfl (by rw[C7,HO.out.2.1]) rfl ⟨by rw[HO.out.1],C1.out.setRow (.inr (Nat.le_refl _)) _⟩
 have hn0:(n == 0)=false:=by simpa using h0
 have hK:N.extract 0 (0+32)=O:=by rw[k0,hO];unfold CB;rw[if_neg h0]
 have HK:=Lib.hid hK;clear hok hg hN hn hz hY hzp hYs hO hos ho1 k0 h1 hK h0;go_enter Tryz.func58,Tryz.ntmps58;go_wp2_with (first|((with_reducible show zOq (.alloc 35));refine AO rfl 35 rfl (.agg Y) HY.out.1 ?_;dsimp only[Value.cells];try simp only[World.size_alloc]));refine(An HR.out).mono ?_;rintro e w1 ⟨rfl,rfl⟩;go_wp2_with fail;refine(HG.out _ ((Ch.refl _ _).alloc _)).mono ?_;rintro e w1 ⟨rfl,hc1⟩;have hy1:=hc1.row (heap_alloc_new w (.cells Y 35)) id;have C1:=Lib.hid (((Ch.refl (fun _=>False) w).alloc (.cells Y 35)).trans hc1 (fun _=>fEq));have hlt:=Ad hy1;have HY1:=Lib.hid hy1;clear hc1 hy1
 go_wp2_with (first
  | ((with_reducible show zOq (.alloc 168));refine AO rfl 168 rfl (.agg Z) HZ.out.1 ?_;dsimp only[Value.cells];try simp only[World.size_alloc])
  | ((with_reducible show zOq (.store 168 (.tmp 5) _));go_must (refine AI rfl 168 _ _ rfl w1.heap.size 0 N rfl rfl (heap_alloc_new _ _) (by rw[BW,HN.out.1]) (by rw[HN.out.1,HZ.out.2];omega) HN.out.2 N (by rw[AT _ _ (by rw[Array.length_toList,Array.length_toList,HN.out.1,HZ.out.2])]) ?_))
  | ((with_reducible show zOq (.load 35 _));refine AJ rfl 35 _ rfl w1.heap.size 0 rfl (AK (heap_alloc_new _ _) _) Tryz.underlying35 rfl C7 (by rw[HN.out.1];omega) O HK.out ?_)
  | ((with_reducible show zOq (.store 35 _ _));refine AI rfl 35 _ _ rfl w.heap.size 0 O rfl rfl (row_setRow (AQ HY1.out _) (by omega) _) (by rw[C7,HO.out.2.1]) (by rw[HO.out.2.1,HY.out.2];omega) HO.out.2.2 O (by rw[AT _ _ (by rw[Array.length_toList,Array.length_toList,HO.out.2.1,HY.out.2])]) ?_))
 have hws:=C1.out.size;exact Af (p:=4) rfl rfl (AK (row_setRow (AQ HY1.out _) (by omega) _) _) Tryz.underlying35 rfl (by rw[C7,HO.out.2.1]) rfl ⟨by rw[HO.out.1],((C1.out.alloc _).setRow (.inr hws) _).setRow (.inr (Nat.le_refl _)) _⟩
theorem NV {w:World} {s:Nat} {F:Nat→Prop} {σ:AG Nd} (h:At w s F σ) :
 Calls Tryz.prog 56 #[.pointer (some ⟨s,0,none⟩)] w fun e w'=>e=.returned (.int .i64 (σ.used:Nat))∧w=w':=by
 obtain⟨a,G,h1,h2,_⟩:=h;have hc:=SlabN.WJ h2;rw[AG.Ms] at hc;have HC:=Lib.hid hc;have HR:=Lib.hid h1;have c0:=AH h1 (i:=0) rfl;clear hc h1 h2;go_enter Tryz.func56,Tryz.ntmps56;go_wp2_with fail;refine(An HR.out).mono ?_;rintro e w1 ⟨rfl,rfl⟩;go_wp2_with fail;refine HC.out.mono ?_;rintro e w1 ⟨rfl,rfl⟩;go_wp2;go_ret;exact⟨rfl,rfl⟩
theorem DU {w:World} {s:Nat} {F:Nat→Prop} {σ:AG Nd} (h:At w s F σ) :
 Calls Tryz.prog 119 #[.pointer (some ⟨s,0,none⟩)] w fun e w'=>e=.returned (.int .i64 (σ.room:Nat))∧w=w':=by
 obtain⟨a,G,h1,h2,_⟩:=h;have hc:=SlabN.DU h2;rw[show(σ.map Nd.enc).room=σ.room from rfl] at hc;have HC:=Lib.hid hc;have HR:=Lib.hid h1;have c0:=AH h1 (i:=0) rfl;clear hc h1 h2;go_enter Tryz.func119,Tryz.ntmps119;go_wp2_with fail;refine(An HR.out).mono ?_;rintro e w1 ⟨rfl,rfl⟩;go_wp2_with fail;refine HC.out.mono ?_;rintro e w1 ⟨rfl,rfl⟩;go_wp2;go_ret;exact⟨rfl,rfl⟩
def Gk (σ:AG Nd):List Nat:=σ.occ σ.slots.length
def ints (l:List Nat):List Value:=l.map fun n=>Value.int .i64 (n:Nat)
end Go.Proofs.YtngbdbpofifimaaGreat.Store
