/- Laws of the layers below. -/
import Derived.Test.YtooijgcildbnlaaGreatQj17
import Derived.Lib.SliceRun
import Derived.Deep.OwnRows
set_option maxHeartbeats 3200000
set_option maxRecDepth 100000
set_option linter.unusedVariables false
namespace Go.Proofs.YtooijgcildbnlaaGreat
open Go.RowKit
section
variable {P : Program} {ops : Array Oper} {Q : Exit→Act→World→Prop} {md : Region.Mode} {S : World→Prop} {k : Nat}
def YR (k:Nat) (S:World→Prop) (listed:Array Bool) (w:World):Prop:=listed.getD k false=true∨S w
def Tv (P:Program) (md:Region.Mode) (ops:Array Oper) (Q:Exit→Act→World→Prop) (T:Array Bool→World→Prop) (n:Nat) (L:Array Bool→Act→World→Prop):Nat→Array Bool→Act→World→Prop
 | 0,listed,a,w=>L listed a w
 | f+1,listed,a,w =>
  Region.ready md ops listed ≠ []∧∀i∈Region.ready md ops listed,i<n∧wpOp P ops Q i (fun a' w'=>T (listed.setIfInBounds i true) w'∧Tv P md ops Q T n L f (listed.setIfInBounds i true) a' w') a w
def Mn (P:Program) (l:List Oper) (Q:Exit→Act→World→Prop) (k:Nat) (S:World→Prop) (n:Nat):List (Nat×Nat)→Bool→Act→World→Prop
 | [],_,a,w=>wpList P l.toArray Q (l.drop n) a w
 | (i,0)::r,past,a,w=>∃o v,l[i]?=some o∧YieldsIf P l.toArray (fun _=>True) o v a∧Mn P l Q k S n r past (a.put o.dst v) w
 | (i,1)::r,past,a,w=>∃o v,l[i]?=some o∧YieldsIf P l.toArray S o v a∧Mn P l Q k S n r past (a.put o.dst v) w
 | (i,_+2)::r,past,a,w=>wpOp P l.toArray Q i (fun a' w'=>((past||i == k)=true∨S w')∧Mn P l Q k S n r (past||i == k) a' w') a w
def Vz (md:Region.Mode) (ops:Array Oper) (k i:Nat):Bool:=match ops[k]? with
 | none=>false
 | some o=>o.after.any (fun e=>Region.binds md e&&(e.on == i))
def Mt (md:Region.Mode) (ops:Array Oper) (k n:Nat):List (Nat×Nat)→Array Bool→Bool
 | [],listed=>Region.seqB md ops (ops.size-n) n listed
 | (i,0)::r,listed=>decide (i<n)&&(i != k)&&(Region.ready md ops listed).contains i&&Region.free md ops listed i&&Mt md ops k n r (listed.setIfInBounds i true)
 | (i,1)::r,listed=>decide (i<n)&&(i != k)&&Vz md ops k i&&(Region.ready md ops listed).contains i&&Region.free md ops listed i&&Mt md ops k n r (listed.setIfInBounds i true)
 | (i,_+2)::r,listed=>decide (i<n)&&decide (Region.ready md ops listed = [i])&&Mt md ops k n r (listed.setIfInBounds i true)
def WS (md:Region.Mode) (ops:Array Oper) (k n:Nat) (p:List (Nat×Nat)):Bool :=
 Region.noSelect ops&&decide (p.length=n)&&decide (n≤ops.size)&&Iv md ops n&&Mt md ops k n p (Array.replicate ops.size false)
end
end Go.Proofs.YtooijgcildbnlaaGreat
namespace Go.Proofs.YtooijgcildbnlaaGreat.BE
open Go.RowKit Go.Proofs.YtooijgcildbnlaaGreat.ShaW Go.Proofs.YtooijgcildbnlaaGreat.Path Go.Proofs.YtooijgcildbnlaaGreat.Store
def pick (x:Int) (n:Nat):Int:=if Int.tmod x n<0 then Int.tmod x n+n else Int.tmod x n
def Yi (out:List Pr) (key:List UInt8) (j:Nat) (x:Int):Prop:=(x = -1∧∀i q,i<j→out[i]?=some q→q.key≠key)∨∃(i:Nat) (q:Pr),i<j∧x=(i:Int)∧out[i]?=some q∧q.key=key
theorem Ma:(Tryz.prog.info? 141).map (·.size)=some 33:=by kernel_rfl
theorem Ls:∃i z,Tryz.prog.info? 141=some i∧i.zero=some z∧i.size=33∧i.bytes=56∧z.cells.size=33:=by
 obtain⟨i,h1,h2,h3,h4⟩:=info_parts (P:=Tryz.prog) (e:=141) (z:=.agg (List.replicate 32 (Value.int .u8 0) ++ [Value.slice none 0 0]).toArray) (size:=33) (bytes:=56) (by kernel_rfl);exact⟨i,_,h1,h2,h3,h4,rfl⟩
def KC (w:World) (ao:Option Addr) (len:Nat):Prop:=∀i,i<len→∃(g off:Nat) (x:Int),ao=some ⟨g,off,none⟩∧w.cell? ⟨g,off+i,none⟩=some (.int .i64 x)∧(Lit.int .i64 x).wf=true∧g<w.heap.size
end Go.Proofs.YtooijgcildbnlaaGreat.BE
namespace Go.Proofs.YtooijgcildbnlaaGreat.Store
open Go.RowKit Go.Sort Go.Proofs.YtooijgcildbnlaaGreat.ShaW Go.Proofs.YtooijgcildbnlaaGreat.Path
theorem SF (a b:List UInt8) (ha:a.length=32) (hb:b.length=32) (d:Nat) (hd:d≤256) (w:World) :
 Calls Tryz.prog 141 #[.agg (AM a),.agg (AM b),.int .i64 (d:Int)] w fun e w'=>e=.returned (.bool (decide (d≤common a b)))∧Adds w w':=by
 obtain⟨A,hA⟩:∃A,A=AM a:=⟨_,rfl⟩
 obtain⟨B,hB⟩:∃B,B=AM b:=⟨_,rfl⟩
 have hAs:A.size=32:=by rw[hA,AN,ha]
 have hBs:B.size=32:=by rw[hB,AN,hb]
 have hcm:=fun w1=>Cj a b ha hb w1
 rw[←hA, ←hB] at hcm ⊢;have g1:((w.alloc (.cells A 24)).alloc (.cells B 24)).heap[w.heap.size]?=some (.cells A 24 (0,0)):=AJ (heap_alloc_new _ _) _
 have g2:((w.alloc (.cells A 24)).alloc (.cells B 24)).heap[w.heap.size+1]?=some (.cells B 24 (0,0)):=by
  have:=heap_alloc_new (w.alloc (.cells A 24)) (.cells B 24);simpa using this
 obtain⟨c,hc⟩:∃c,c=common a b:=⟨_,rfl⟩
 rw[←hc] at hcm ⊢;have HA:=Lib.hid hAs;have HB:=Lib.hid hBs;have G1:=Lib.hid g1;have G2:=Lib.hid g2;have HCM:=Lib.hid hcm;have h0:(0:Int)≤(d:Int):=by omega
 have h256:(d:Int)≤256:=by omega
 clear hA hB hAs hBs g1 g2 ha hb hcm hc;go_enter Tryz.func141,Tryz.ntmps141
 go_wp2_with (first
  | fail
  | ((with_reducible show zOq (.load 24 _));refine Ax (by first|rfl|(simp[Region.wanted];done)) 24 _ rfl w.heap.size 0 rfl G1.out Tryz.underlying24 rfl AW (by rw[HA.out];omega) A (by simp[←HA.out]) ?_)
  | ((with_reducible show zOq (.load 24 _));refine Ax (by first|rfl|(simp[Region.wanted];done)) 24 _ rfl (w.heap.size+1) 0 rfl G2.out Tryz.underlying24 rfl AW (by rw[HB.out];omega) B (by simp[←HB.out]) ?_)
  | ((with_reducible show zOq (.load 24 _));refine AF rfl 24 _ rfl w.heap.size 0 rfl G1.out Tryz.underlying24 rfl AW (by rw[HA.out];omega) A (by simp[←HA.out]) ?_)
  | ((with_reducible show zOq (.load 24 _));refine AF rfl 24 _ rfl (w.heap.size+1) 0 rfl G2.out Tryz.underlying24 rfl AW (by rw[HB.out];omega) B (by simp[←HB.out]) ?_))
 refine(HCM.out _).mono ?_;rintro e w1 ⟨rfl,a1⟩;have A1:=Lib.hid ((((Ch.refl (fun _=>False) w).alloc (.cells A 24)).alloc (.cells B 24)).trans a1 (fun _=>fEq));clear a1;go_wp2;go_ret;exact⟨rfl,A1.out⟩
theorem C8 {w:World} {s:Nat} {F:Nat→Prop} {σ:AD Nd} (h:At w s F σ) (G:Good σ) {n:Int} {d:Nat} {t:Tr} (hr:Rep (sk σ) n d t):(nd σ n).size=(t.leaves:Int)∧t.leaves≤65536:=by
 have h1:=hr.size G.fit;rw[EK] at h1;have h2:=Uh G hr;rw[Tr.D7] at h2;have:=h.len;have:=h.room;refine⟨?_,by omega⟩
 show(stat (nd σ n)).size=_
 rw[h1];unfold wrap64;omega
end Go.Proofs.YtooijgcildbnlaaGreat.Store
namespace Go.Proofs.YtooijgcildbnlaaGreat.Store
open Go.RowKit Go.Sort Go.Proofs.YtooijgcildbnlaaGreat.ShaW Go.Proofs.YtooijgcildbnlaaGreat.Path Go.Proofs.YtooijgcildbnlaaGreat.BE
def Tr.some (t:Tr) (key:List UInt8) (most:Int):AQ:=if most<0 then t.from key else (t.from key).take most.toNat
def Xs (key:List UInt8) (ps:List (Int×Tr)):AQ:=ps.flatMap fun p=>p.2.from key
def steps (ps:List (Int×Tr)):Nat:=(ps.map fun p=>2*p.2.nodes+1).sum
def Deep (f:View):List (Int×Tr)→Prop
 | []=>True
 | p::rest=>(∃d,rest.length≤d∧d≤256∧Rep f p.1 d p.2)∧Deep f rest
def V5 (out:List Pr):Prop:=out.Pairwise fun x y=>∀k,x.vv.ownBlock=some k→y.vv.ownBlock≠some k
structure Told (base:Nat) (w:World) (v:Value) (out:List Pr):Prop where
 row:RowP w base v out
 vals:∀x∈out,x.key.length=32∧Bytes w x.vv x.val∧∀k,x.vv.ownBlock=some k→base≤k∧k<w.heap.size∧v.ownBlock≠some k
 apart:V5 out
structure Xq (base:Nat) (wb wr:World) (v9 v10:Value) (out:List Pr) (st:List Int):Prop where
 told:Told base wr v9 out
 pile:wr.ownsRow base 3 1 v10 st.length (il st.reverse)
 one:∀k,v10.ownBlock=some k→v9.ownBlock≠some k∧∀x∈out,x.vv.ownBlock≠some k
 world:Adds wb wr
theorem KJ (T:Array Value) (ao:Option Addr) (n c:Nat) (hT:T.size=32):Tryz.prog.built 141 [(0,.agg T),(1,.slice ao n c)]=some (T++#[.slice ao n c]):=by
 obtain⟨i,h1,h2,h3,h4⟩:=info_parts (P:=Tryz.prog) (e:=141) (z:=.agg (List.replicate 32 (Value.int .u8 0) ++ [Value.slice none 0 0]).toArray) (size:=33) (bytes:=56) (by kernel_rfl);exact Km h1 h2 Tryz.underlying141 (by kernel_rfl) (by rfl) (.agg T) (.slice ao n c) hT rfl
section
variable {w : World} {s : Nat} {F : Nat→Prop} {σ : AD Nd} {root : Int} {t : Tr}
theorem Qf (h:At w s F σ) (G:Good σ) (hr:Rep (sk σ) root 0 t) (h0:BM σ root=0) :
 Calls Tryz.prog 67 #[.pointer (some ⟨s,0,none⟩),.int .i64 root] w fun e w'=>e=.returned (.tuple #[.int .i64 (t.leaves:Nat),.int .i64 0])∧Adds w w':=by
 have hrt:=Store.Gn h root;rw[h0] at hrt;have hsz:=fun w1 (a:Adds w w1)=>Uu (h.adds a) root
 rw[(C8 h G hr).1] at hsz;have HR:=Lib.hid hrt;have HS:=Lib.hid hsz;clear h G hr h0 hrt hsz;go_enter Tryz.func67,Tryz.ntmps67;go_wp2_with fail;refine HR.out.mono ?_;rintro e w1 ⟨rfl,a1⟩;have A1:=Lib.hid a1;clear a1;go_wp2_with fail;refine(HS.out _ A1.out).mono ?_;rintro e w2 ⟨rfl,a2⟩;have A2:=Lib.hid (A1.out.trans a2 (fun _=>fEq));clear a2;go_wp2_with fail;go_ret2;exact⟨rfl,A2.out⟩
def YG:Array Value:=(List.replicate 32 (Value.int .u8 0) ++ [Value.slice none 0 0]).toArray
end
def Tr.Dk (t:Tr) (b:List UInt8):Nat:=if (L6 b).2=true then t.ER (L6 b).1 else t.leaves
def Tr.XS (t:Tr) (a b:List UInt8):Int:=if Lib.compareBytes b a<0 then 0 else (t.Dk b:Int)-(t.ER a:Int)

end Go.Proofs.YtooijgcildbnlaaGreat.Store
namespace Go.Proofs.YtooijgcildbnlaaGreat.Store
open Go.RowKit Go.Proofs.YtooijgcildbnlaaGreat.ShaW Go.Proofs.YtooijgcildbnlaaGreat.Path
def Sp.leaf (K:List UInt8) (v:Value) (bs:List UInt8):Sp:=⟨1,0,K,v,bs,0,0,0,0⟩
def Sp.inner (d l r:Int):Sp:=⟨2,d,Nd.z32,.slice none 0 0,[],l,r,0,0⟩

section
variable {w w' : World} {b : Nat} {F : Nat→Prop} {ρ : Rs} {σ : AD Nd}
def Rs.Xz (ρ:Rs) (n:Int):Rs:=match ρ.spots[(n-1).toNat]? with
 | some x=>if n=0 then ρ else ρ.setAt (n-1).toNat x.RO
 | none=>ρ
end
end Go.Proofs.YtooijgcildbnlaaGreat.Store
namespace Go.Proofs.YtooijgcildbnlaaGreat.Store
open Go.RowKit Go.Sort Go.Proofs.YtooijgcildbnlaaGreat.ShaW Go.Proofs.YtooijgcildbnlaaGreat.Path Go.Proofs.YtooijgcildbnlaaGreat.BE
section
variable {b : Nat} {F : Nat→Prop} {ρ : Rs} {σ : AD Nd}
def Xn (w w':World) (F:Nat→Prop) (L:AQ) (v:Value) (out:List Pr):Prop :=
 RowP w' w.heap.size v out∧out.map Pr.ent=L∧(out = []→v=.slice none 0 0)∧(∀x∈out,x.key.length=32∧Bytes w' x.vv x.val∧∀k,x.vv.ownBlock=some k→F k)∧Adds w w'
end
def Xr (d:Nat) (n:Nat) (k0:List UInt8) (i:Nat) (k:List UInt8):Prop:=AS k d=(if i<n then 0 else 1)∧d≤common k k0
def X7 (l r:Int) (kx ky:Nat):Bool:=((l == 0)&&(r == 0))||((l == 0)&&(ky == 1))||((r == 0)&&(kx == 1))
def YN (d:Nat) (kx ky:Nat) (dx dy:Int):Bool:=((kx == 2)&&(dx != (d:Int)+1))||((ky == 2)&&(dy != (d:Int)+1))

end Go.Proofs.YtooijgcildbnlaaGreat.Store
namespace Go.Proofs.YtooijgcildbnlaaGreat.Store
open Go.RowKit Go.Proofs.YtooijgcildbnlaaGreat.ShaW Go.Proofs.YtooijgcildbnlaaGreat.Path
section
variable {w w' : World} {b : Nat} {F : Nat→Prop} {ρ : Rs} {σ : AD Nd}
def Xk (σ:AD Nd) (n:Int):Prop:=n=0∨∃(m:Nat) (s:Nd×Nat),n=(m:Int)+1∧σ.slots[m]?=some s∧s.2≠0∧1≤s.1.held∧s.1.held≤(s.2:Int)∧s.2≤1073741824
end
structure LkD (σ:AD Nd) (ρ:Rs) (m:Nat) (s:Nd×Nat) (x:Sp):Prop where
 space:ρ.space=σ.room
 free:ρ.free=σ.free
 len:ρ.spots.length=σ.slots.length
 hs:σ.slots[m]?=some s
 hx:ρ.spots[m]?=some x
 live:s.2≠0
 fits:x.kind=s.1.kind∧x.left=s.1.left∧x.right=s.1.right∧x.value=s.1.value∧(s.1.kind=1→x.key=s.1.key)∧(s.1.kind=2→x.d=s.1.depth)∧x.own=s.1.held∧x.own+x.sides+1=(s.2:Int)
 slot:∀(j:Nat) t y,j≠m→σ.slots[j]?=some t→ρ.spots[j]?=some y→WX t y
section
variable {ρ : Rs} {σ : AD Nd} {m : Nat} {s : Nd×Nat} {x : Sp}
def Rs.freed (ρ:Rs) (m:Nat):Rs := { ρ with spots:=ρ.spots.set m Sp.zero,free:=ρ.free ++ [m+1] }
def Sp.less (x:Sp):Sp := { x with sides:=x.sides-1 }
end
section
variable {w w' : World} {b : Nat} {F : Nat→Prop} {ρ : Rs} {σ : AD Nd}
def Xm (w wz:World) (b:Nat) (F:Nat→Prop) (ρ:Rs) (X:Array Value):Prop :=
 ∃F',RAt wz b F' ρ∧Ch F w wz∧(∀k,F' k→F k∨w.heap.size<k)∧wz.heap[w.heap.size]?=some (.cells X 254 (0,0))∧∀k,F k→k<w.heap.size
end
def Xc (T b:Nat):Prop:=∀(σ:AD Nd) (ρ:Rs) (m:Nat) (s:Nd×Nat) (x:Sp) (rest:List Int) (w:World) (F:Nat→Prop),total σ≤T→Sound σ (((m:Int)+1)::rest)→LkD σ ρ m s x→RAt w b F ρ →
 Calls Tryz.prog 224 #[.pointer (some ⟨b,0,none⟩),.int .i64 ((m:Int)+1)] w fun e w'=>e=.returned (.int .i64 ((Bh σ [(m:Int)+1] 0).1:Nat))∧∃ρ',Lk (Bh σ [(m:Int)+1] 0).2 ρ'∧V6 w w' b F ρ'
section
variable {w w' : World} {b : Nat} {F : Nat→Prop} {ρ : Rs} {σ : AD Nd}
def kids (n:Int):List Int:=if n=0 then [] else [n]
end
section
variable {w w' : World} {b : Nat} {F : Nat→Prop} {ρ : Rs} {σ : AD Nd}
def Sp.XW (x:Sp):Sp := { x with own:=x.own-1 }
end
section
variable {w0 w w' : World} {b : Nat} {σ σ' : AD Nd} {ρ : Rs} {F G : Nat→Prop}
def ROw (w0 w:World) (b:Nat) (σ:AD Nd) (G:Nat→Prop):Prop:=∃ρ F,RAt w b F ρ∧Lk σ ρ∧(∀k,F k→w0.heap.size≤k)∧Adds w0 w∧∀k,G k→¬F k∧k<w.heap.size
end
theorem _root_.Go.Proofs.YtooijgcildbnlaaGreat.Tag.FV.adds {w w':World} {v:Value} {ps:List (List UInt8)} (h:Tag.FV w v ps) (a:Adds w w'):Tag.FV w' v ps:=by
 obtain⟨ao,cap,rfl,hps⟩:=h;refine⟨ao,cap,rfl,fun i p hp=>?_⟩;obtain⟨g,off,x,e,hc,hb,hk⟩:=hps i p hp;exact⟨g,off,x,e,a.cell hc id,hb.An a (fun _ _ h=>h),fun h0 k h=>Nat.lt_of_lt_of_le (hk h0 k h) a.size⟩
end Go.Proofs.YtooijgcildbnlaaGreat.Store
namespace Go.Proofs.YtooijgcildbnlaaGreat.Store
open Go.RowKit Go.Sort Go.Proofs.YtooijgcildbnlaaGreat.ShaW Go.Proofs.YtooijgcildbnlaaGreat.Path Go.Proofs.YtooijgcildbnlaaGreat.BE
structure Lp (w:World) (v:Value) (out:List Pr):Prop where
 row:RowP w 0 v out
 nil:out = []→v=.slice none 0 0
 good:∀x∈out,x.Good w
theorem _root_.Go.Proofs.YtooijgcildbnlaaGreat.BE.Pr.Good.adds {w w':World} {x:Pr} (h:x.Good w) (a:Adds w w'):x.Good w' :=
 ⟨h.key,h.val.An a (fun _ _ h=>h),fun h0 k hk=>Nat.lt_of_lt_of_le (h.blk h0 k hk) a.size⟩
theorem _root_.Go.Proofs.YtooijgcildbnlaaGreat.BE.Pr.Good.one {w:World} {x:Pr} (h:x.Good w):∀u∈x.cells.toList,u.oneCell'=true:=fun u hu=>by
 obtain⟨ao,cap,e,_⟩:=h.val.form;rw[Pr.list,List.mem_append,List.mem_map,List.mem_singleton] at hu;rcases hu with⟨c,_,rfl⟩|rfl
 · rfl
 rw[e];rfl
def X5 (b d:Nat) (l:List Pr):List Pr:=l.filter (fun x=>AS x.key d == b)
end Go.Proofs.YtooijgcildbnlaaGreat.Store
namespace Go.Proofs.YtooijgcildbnlaaGreat.Path
open Go.RowKit Go.Proofs.YtooijgcildbnlaaGreat.Store
def clr (x:UInt8) (j:Nat):UInt8:=UInt8.ofNat (x.toNat-CJ x j*2 ^ (7-j))
def Xj (k:List UInt8) (d:Nat):List UInt8:=k.set (d / 8) (clr (k.getD (d / 8) 0) (d % 8))
def Wi (k:List UInt8) (d:Nat):Nat→List UInt8
 | 0=>k
 | n+1=>Xj (Wi k d n) (d+n)
end Go.Proofs.YtooijgcildbnlaaGreat.Path
namespace Go.Proofs.YtooijgcildbnlaaGreat
open Go.RowKit
section
variable {P : Program} {Q : Exit→Act→World→Prop} {md : Region.Mode} {S : World→Prop}
def C0 (P:Program) (l:List Oper) (Q:Exit→Act→World→Prop) (f:Nat) (S:World→Prop) (n:Nat):List (Nat×Bool)→Act→World→Prop
 | [],a,w=>wpOp P l.toArray Q f (fun a' w'=>S w'∧Bd P l Q S n [] a' w') a w
 | (i,false)::r,a,w=>∃o v,l[i]?=some o∧YieldsIf P l.toArray S o v a∧C0 P l Q f S n r (a.put o.dst v) w
 | (i,true)::r,a,w=>wpOp P l.toArray Q i (fun a' w'=>S w'∧C0 P l Q f S n r a' w') a w∧wpOp P l.toArray Q f (fun a' w'=>S w'∧Bd P l Q S n ((i,true)::r) a' w') a w
def Hq (md:Region.Mode) (ops:Array Oper) (f n:Nat):List (Nat×Bool)→Array Bool→Bool
 | [],listed=>decide (f<n)&&decide (Region.ready md ops listed = [f])&&Hf md ops n [] (listed.setIfInBounds f true)
 | (i,false)::r,listed=>decide (i<n)&&(Region.ready md ops listed).contains i&&Region.free md ops listed i&&Hq md ops f n r (listed.setIfInBounds i true)
 | (i,true)::r,listed=>decide (i<n)&&decide (f<n)&&(decide (Region.ready md ops listed = [i,f])||decide (Region.ready md ops listed = [f,i]))&&Hq md ops f n r (listed.setIfInBounds i true)&&Hf md ops n ((i,true)::r) (listed.setIfInBounds f true)
def OK (md:Region.Mode) (ops:Array Oper) (f n:Nat) (p:List (Nat×Bool)):Bool :=
 Region.noSelect ops&&decide (p.length+1=n)&&decide (n≤ops.size)&&Iv md ops n&&Hq md ops f n p (Array.replicate ops.size false)
theorem EJ {l:List Oper} {f n:Nat} (hsel:Region.noSelect l.toArray=true) (ht:Iv md l.toArray n=true) (hQ:∀c a a' w,Q (.panic c) a' w→Q (.panic c) a w) :
 ∀(p:List (Nat×Bool)) (listed:Array Bool) (a:Act) (w:World),Hq md l.toArray f n p listed=true→HeadInv md l.toArray n listed→S w→C0 P l Q f S n p a w →
 wpHead P md l.toArray Q S n (fun listed a w=>Region.seqB md l.toArray (l.toArray.size-n) n listed=true∧wpList P l.toArray Q (l.drop n) a w) (p.length+1) listed a w
 | [],listed,a,w,hB,inv,hS,h=>by
  simp only[Hq,Bool.and_eq_true,decide_eq_true_eq] at hB;obtain⟨⟨hfn,hr⟩,hB'⟩:=hB;refine⟨by rw[hr];simp,fun j hj=>?_⟩;have hjf:j=f:=by rw[hr] at hj;simpa using hj
  subst hjf;exact⟨hfn,wpOp_mono (fun a' w' h'=>⟨h'.1,Cq hsel ht hQ [] _ a' w' hB' (inv.set hj hfn) h'.1 h'.2⟩) h⟩
 | (i,false)::r,listed,a,w,hB,inv,hS,h=>by
  simp only[Hq,Bool.and_eq_true,decide_eq_true_eq] at hB;obtain⟨⟨⟨hin,hr⟩,hf⟩,hB'⟩:=hB;obtain⟨o,v,ho,hy,h'⟩:=h;have hr':i∈Region.ready md l.toArray listed:=by simpa using hr
  have ho':l.toArray[i]?=some o:=by simpa using ho
  exact II ho' (Region.noSelect_spec hsel) (fun c a w=>hQ c _ _ w) ht hin (fun listed a w hL=>seqB_ready hL.1) (r.length+1) listed a w inv (Region.free_spec ho' hf) hr' hy hS
   (EJ hsel ht hQ r _ _ w hB' (inv.set hr' hin) hS h')
 | (i,true)::r,listed,a,w,hB,inv,hS,h=>by
  simp only[Hq,Bool.and_eq_true,decide_eq_true_eq,Bool.or_eq_true] at hB;obtain⟨⟨⟨⟨hin,hfn⟩,hr⟩,hB1⟩,hB2⟩:=hB
  have hmem:∀j,j∈Region.ready md l.toArray listed↔j=i∨j=f:=fun j=>by
   rcases hr with hr|hr
   · rw[hr];simp
   rw[hr];simp[or_comm]
  refine⟨fun h0=>?_,fun j hj=>?_⟩
  · have:=(hmem i).2 (.inl rfl)
    rw[h0] at this;cases this
  rcases (hmem j).1 hj with e|e
  · subst e
    exact⟨hin,wpOp_mono (fun a' w' h'=>⟨h'.1,EJ hsel ht hQ r _ a' w' hB1 (inv.set hj hin) h'.1 h'.2⟩) h.1⟩
  subst e;exact⟨hfn,wpOp_mono (fun a' w' h'=>⟨h'.1,Cq hsel ht hQ ((i,true)::r) _ a' w' hB2 (inv.set hj hfn) h'.1 h'.2⟩) h.2⟩
theorem GK {id:Nat} {a:Act} {w:World} {l:List Oper} (f:Nat) (S:World→Prop) (n:Nat) (p:List (Nat×Bool)) (hm:P.follows .mixedOrders=true)
 (hB:OK .any l.toArray f n p=true) (hS:S w.drew) (h:C0 P l (NoPanic Q) f S n p a w.drew):(Code.region id l.toArray true).wp P Q a w:=by
 refine wp_region_noPanic ?_;have hQ:∀c a a' w,NoPanic Q (.panic c) a' w→NoPanic Q (.panic c) a w:=fun _ _ _ _ h=>h.elim
 simp only[OK,Bool.and_eq_true,decide_eq_true_eq] at hB;obtain⟨⟨⟨⟨hsel,hlen⟩,hn⟩,ht⟩,hp⟩:=hB
 have inv0:HeadInv .any l.toArray n (Array.replicate l.toArray.size false) :=
  ⟨by simp,fun j oj _ hl=>(by rw[getD_replicate_false] at hl;cases hl),fun t _ ht=>getD_in (by simpa using ht) (getD_replicate_false _ _)⟩
 have H:=EJ (md:=.any) hsel ht hQ p _ a _ hp inv0 hS h;refine wp_region_any hm ?_
 have:=EL (g:=l.toArray.size-n) (fun listed a' w' hL=>by
  have hdl:(l.drop n).length=l.toArray.size-n:=by simp
  have:=wpAny_of_seq (md:=.any) (Q':=NoPanic Q) (l.drop n) n listed a' w' (fun j=>by simp[List.getElem?_drop]) (by rw[hdl];exact hL.1) hL.2
  rwa [hdl] at this) _ _ _ _ H
 rw[hlen,show n+(l.toArray.size-n)=l.toArray.size by omega] at this;exact this
theorem planF_look {l:List Oper} {f n i:Nat} {r:List (Nat×Bool)} {a:Act} {w:World} {o:Oper} {v:Value} (ho:l[i]?=some o) (hw:Region.wanted o (yielded l.toArray a.tmps)=true)
 (hy:∀w0,S w0→(execOp a.eval o).run P w0=.ok (.value v) w0) (h:C0 P l Q f S n r (a.put o.dst v) w):C0 P l Q f S n ((i,false)::r) a w :=
 ⟨o,v,ho,.inl ⟨hw,hy⟩,h⟩
theorem PJ {l:List Oper} {f n i:Nat} {r:List (Nat×Bool)} {a:Act} {w:World} {o:Oper} (ho:l[i]?=some o) (hw:Region.wanted o (yielded l.toArray a.tmps)=false)
 (h:C0 P l Q f S n r (a.put o.dst undef) w):C0 P l Q f S n ((i,false)::r) a w :=
 ⟨o,undef,ho,.inr ⟨hw,rfl⟩,h⟩
theorem GB {l:List Oper} {i:Nat} {a:Act} {w:World} {o:Oper} {K:Act→World→Prop} (ho:l[i]?=some o) (h:wpList P l.toArray (Exit.then K Q) [o] a w):wpOp P l.toArray Q i K a w:=by
 have ho':l.toArray[i]?=some o:=by simpa using ho
 unfold wpOp;simp only[ho'];unfold wpList at h;split
 · rename_i hw
   rw[if_pos hw] at h;refine h.imp (fun h=>?_) id;unfold Oper.wp at h ⊢;generalize (execOp a.eval o).run P w=r at h ⊢;cases r with
   | ok nx w' =>
    cases nx<;>simp only[Oper.upon,wpList,Exit.then] at h ⊢ <;>
     first
      | exact h
      | exact Calls.mono h (fun e w'' he=>by cases e<;>exact he)
   | halt x w'=>cases x<;>simp only[Oper.upon,Exit.then] at h ⊢ <;> exact h
 rename_i hw;rw[if_neg hw] at h;exact h
theorem Ku {l:List Oper} {f n i:Nat} {r:List (Nat×Bool)} {a:Act} {w:World} {o of:Oper} (ho:l[i]?=some o) (hof:l[f]?=some of)
 (h:wpList P l.toArray (Exit.then (fun a' w'=>S w'∧C0 P l Q f S n r a' w') Q) [o] a w) (h2:wpList P l.toArray (Exit.then (fun a' w'=>S w'∧Bd P l Q S n ((i,true)::r) a' w') Q) [of] a w):C0 P l Q f S n ((i,true)::r) a w :=
 ⟨GB ho h,GB hof h2⟩
theorem KH {l:List Oper} {f n:Nat} {a:Act} {w:World} {of:Oper} (hof:l[f]?=some of)
 (h2:wpList P l.toArray (Exit.then (fun a' w'=>S w'∧Bd P l Q S n [] a' w') Q) [of] a w):C0 P l Q f S n [] a w:=GB hof h2
end
section
variable {P : Program} {Q : Exit→Act→World→Prop} {md : Region.Mode} {S : World→Prop} {q : List (Nat×Bool)}
def Pj (P:Program) (l:List Oper) (Q:Exit→Act→World→Prop) (f:Nat) (S:World→Prop) (n:Nat) (q:List (Nat×Bool)):List (Nat×Bool)→Act→World→Prop
 | [],a,w=>wpOp P l.toArray Q f (fun a' w'=>S w'∧Bd P l Q S n q a' w') a w
 | (i,false)::r,a,w=>∃o v,l[i]?=some o∧YieldsIf P l.toArray S o v a∧Pj P l Q f S n q r (a.put o.dst v) w
 | (i,true)::r,a,w=>wpOp P l.toArray Q i (fun a' w'=>S w'∧Pj P l Q f S n q r a' w') a w∧wpOp P l.toArray Q f (fun a' w'=>S w'∧Bd P l Q S n ((i,true)::(r++q)) a' w') a w
def PH (md:Region.Mode) (ops:Array Oper) (f n:Nat) (q:List (Nat×Bool)):List (Nat×Bool)→Array Bool→Bool
 | [],listed=>decide (f<n)&&decide (Region.ready md ops listed = [f])&&Hf md ops n q (listed.setIfInBounds f true)
 | (i,false)::r,listed=>decide (i<n)&&(Region.ready md ops listed).contains i&&Region.free md ops listed i&&PH md ops f n q r (listed.setIfInBounds i true)
 | (i,true)::r,listed=>decide (i<n)&&decide (f<n)&&(decide (Region.ready md ops listed = [i,f])||decide (Region.ready md ops listed = [f,i]))&&PH md ops f n q r (listed.setIfInBounds i true)&&Hf md ops n ((i,true)::(r++q)) (listed.setIfInBounds f true)
def WV (md:Region.Mode) (ops:Array Oper) (f n:Nat) (q p:List (Nat×Bool)):Bool :=
 Region.noSelect ops&&decide (q.length+1+p.length=n)&&decide (n≤ops.size)&&Iv md ops n&&PH md ops f n q p (Array.replicate ops.size false)
end
end Go.Proofs.YtooijgcildbnlaaGreat
namespace Go.Proofs.YtooijgcildbnlaaGreat.Store
open Go.RowKit Go.Proofs.YtooijgcildbnlaaGreat.ShaW Go.Proofs.YtooijgcildbnlaaGreat.Path Go.Proofs.YtooijgcildbnlaaGreat.BE
section
variable {w w' : World} {b : Nat} {F : Nat→Prop} {ρ : Rs} {σ : AD Nd}
def YL (w:World) (g:Nat) (cur Z:Array Value) (wz:World):Prop:=wz.heap[g]?=some (.cells cur 141 (0,0))∧wz.heap[w.heap.size]?=some (.cells Z 24 (0,0))∧Adds w wz
end
end Go.Proofs.YtooijgcildbnlaaGreat.Store
namespace Go.Proofs.YtooijgcildbnlaaGreat.Store
open Go.RowKit Go.Sort Go.Proofs.YtooijgcildbnlaaGreat.ShaW Go.Proofs.YtooijgcildbnlaaGreat.Path Go.Proofs.YtooijgcildbnlaaGreat.BE
def OC (w:World) (n0:Nat) (v:Value) (bs:List UInt8):Prop :=
 (v=.slice none 0 0∧bs = [])∨∃g c all,v=.slice (some ⟨g,0,none⟩) bs.length c∧n0≤g∧w.heap[g]?=some (.cells (AM all) 5 (0,0))∧all.length=c∧all.take bs.length=bs∧c≤maxLen∧bs.length≤c
def RO (x:UInt8):UInt8:=x ^^^ 90
end Go.Proofs.YtooijgcildbnlaaGreat.Store
namespace Go.Proofs.YtooijgcildbnlaaGreat.Store
open Go.RowKit Go.Proofs.YtooijgcildbnlaaGreat.ShaW Go.Proofs.YtooijgcildbnlaaGreat.Path Go.Proofs.YtooijgcildbnlaaGreat.BE
def mark (i:Nat):UInt8:=UInt8.ofNat (200+i % 50)
def marks (n k:Nat):List UInt8:=(List.range k).map fun i=>mark (n+i)
def X3 (bs:List UInt8) (k:Nat):List UInt8:=bs++(marks bs.length k++List.replicate (5-k) 0)
def XW (bs:List UInt8):List UInt8:=bs++marks bs.length 5
def Xl (w:World) (x:Value) (all:List UInt8):Prop :=
 (x=.slice none 0 0∧all = [])∨∃g n,x=.slice (some ⟨g,0,none⟩) n all.length∧n≤all.length∧all.length≤maxLen∧w.heap[g]?=some (.cells (AM all) 5 (0,0))
def Xh:Value→Value
 | .slice (some a) _ c=>.slice (some a) c c
 | _=>.slice none 0 0
section
variable {w w' : World} {x : Value} {all : List UInt8}
def YS (ls:Nat→Value) (bf:Nat→List UInt8) (gl:Nat) (wz:World):Prop:=(∀j,j<2→Xl wz (ls j) (bf j))∧wz.heap[gl]?=some (.cells #[ls 0,ls 1] 73 (0,0))
end
end Go.Proofs.YtooijgcildbnlaaGreat.Store
