/- Laws of the layers below. -/
import Derived.Test.YtngbdbpofifimaaGreatQm10
set_option maxHeartbeats 3200000
set_option maxRecDepth 100000
set_option linter.unusedVariables false
namespace Go.Proofs.YtngbdbpofifimaaGreat
open Go.RowKit
section
variable {P : Program} {ops : Array Oper} {Q : Exit→Act→World→Prop} {md : Region.Mode} {S : World→Prop} {k : Nat}
def Xp (k:Nat) (S:World→Prop) (listed:Array Bool) (w:World):Prop:=listed.getD k false=true∨S w
def UE (P:Program) (md:Region.Mode) (ops:Array Oper) (Q:Exit→Act→World→Prop) (T:Array Bool→World→Prop) (n:Nat) (L:Array Bool→Act→World→Prop):Nat→Array Bool→Act→World→Prop
 | 0,listed,a,w=>L listed a w
 | f+1,listed,a,w =>
  Region.ready md ops listed ≠ []∧∀i∈Region.ready md ops listed,i<n∧wpOp P ops Q i (fun a' w'=>T (listed.setIfInBounds i true) w'∧UE P md ops Q T n L f (listed.setIfInBounds i true) a' w') a w
def MN (P:Program) (l:List Oper) (Q:Exit→Act→World→Prop) (k:Nat) (S:World→Prop) (n:Nat):List (Nat×Nat)→Bool→Act→World→Prop
 | [],_,a,w=>wpList P l.toArray Q (l.drop n) a w
 | (i,0)::r,past,a,w=>∃o v,l[i]?=some o∧YieldsIf P l.toArray (fun _=>True) o v a∧MN P l Q k S n r past (a.put o.dst v) w
 | (i,1)::r,past,a,w=>∃o v,l[i]?=some o∧YieldsIf P l.toArray S o v a∧MN P l Q k S n r past (a.put o.dst v) w
 | (i,_+2)::r,past,a,w=>wpOp P l.toArray Q i (fun a' w'=>((past||i == k)=true∨S w')∧MN P l Q k S n r (past||i == k) a' w') a w
def V2 (md:Region.Mode) (ops:Array Oper) (k i:Nat):Bool:=match ops[k]? with
 | none=>false
 | some o=>o.after.any (fun e=>Region.binds md e&&(e.on == i))
def MK (md:Region.Mode) (ops:Array Oper) (k n:Nat):List (Nat×Nat)→Array Bool→Bool
 | [],listed=>Region.seqB md ops (ops.size-n) n listed
 | (i,0)::r,listed=>decide (i<n)&&(i != k)&&(Region.ready md ops listed).contains i&&Region.free md ops listed i&&MK md ops k n r (listed.setIfInBounds i true)
 | (i,1)::r,listed=>decide (i<n)&&(i != k)&&V2 md ops k i&&(Region.ready md ops listed).contains i&&Region.free md ops listed i&&MK md ops k n r (listed.setIfInBounds i true)
 | (i,_+2)::r,listed=>decide (i<n)&&decide (Region.ready md ops listed = [i])&&MK md ops k n r (listed.setIfInBounds i true)
def Wr (md:Region.Mode) (ops:Array Oper) (k n:Nat) (p:List (Nat×Nat)):Bool :=
 Region.noSelect ops&&decide (p.length=n)&&decide (n≤ops.size)&&Gq md ops n&&MK md ops k n p (Array.replicate ops.size false)
end
end Go.Proofs.YtngbdbpofifimaaGreat
namespace Go.Proofs.YtngbdbpofifimaaGreat.Path
open Go.RowKit
theorem Ra (K:Array Value) (d:Int) (hd:d<0∨256≤d) (w:World):Calls Tryz.prog 244 #[.agg K,.int .i64 d] w fun e w'=>e=.returned (.int .i64 (-1))∧Ch (fun _=>False) w w':=by
 by_cases h0:d<0
 · clear hd
   go_enter Tryz.func244,Tryz.ntmps244;go_wp2;go_ret;exact⟨rfl,(Ch.refl _ _).alloc _⟩
 have h1:256≤d:=by omega
 have h2:0≤d:=by omega
 clear hd h0;go_enter Tryz.func244,Tryz.ntmps244;go_wp2;go_ret;exact⟨rfl,(Ch.refl _ _).alloc _⟩
theorem Jc (k:List UInt8) (hk:k.length=32) (d:Nat) (hd:d<256) (w:World):Calls Tryz.prog 244 #[.agg (AS k),.int .i64 (d:Int)] w fun e w'=>e=.returned (.int .i64 (Ao k d:Nat))∧Ch (fun _=>False) w w':=by
 have hx:=Dd (l:=k) (i:=d / 8) (by omega);have hkb:Ao k d=Ck (k.getD (d / 8) 0) (d % 8):=rfl;generalize k.getD (d / 8) 0=x at hx hkb;obtain⟨K,hK⟩:∃K,K=AS k:=⟨_,rfl⟩
 rw[←hK] at hx ⊢;have h0:(0:Int)≤(d:Int):=by omega
 have h1:(d:Int)<256:=by omega
 have h2:¬(256:Int)≤(d:Int):=by omega
 have n1:(0:Int)≤(d:Int) / 8:=by omega
 have n2:(d:Int) / 8<32:=by omega
 have n3:((d:Int) / 8).toNat=d / 8:=by omega
 have c0:(w.alloc (.cells K 34)).cell? ⟨w.heap.size,d / 8,none⟩=some (bv x):=AH (heap_alloc_new _ _) hx;have HKB:=Lib.hid hkb;clear hkb hK hx;go_enter Tryz.func244,Tryz.ntmps244;go_wp2_with fail;go_loopg [5,6] (7-d % 8) (fun g s5 s6 wr=>∃i y:Nat,i≤7-d % 8∧g=7-d % 8-i∧s5=.int .i64 (y:Int)∧s6=.int .i64 (i:Int)∧y=x.toNat / 2 ^ i∧y≤255∧Ch (fun _=>False) w wr)
 case atStart=>exact⟨0,x.toNat,Nat.zero_le _,rfl,by have:=x.toNat_lt;first|rfl|rw[show wrap64 (x.toNat:Int)=x.toNat by unfold wrap64;omega],rfl,by simp,by have:=x.toNat_lt;omega,(Ch.refl _ _).alloc _⟩
 obtain⟨i,y,hi,rfl,rfl,rfl,hy,hy2,hch⟩:=hrel;have HY:=(hIq hy hch)
 clear hy hch;have e8:d % 8<8:=Nat.mod_lt _ (by decide);by_cases hlt:i<7-d % 8
 · have p1:decide ((i:Int)<7-(d:Int) % 8)=true:=decide_eq_true (by omega)
   have p2:(i:Int)<7-(d:Int) % 8:=by omega
   go_wp2;go_roundg (7-d % 8-(i+1))
   case measure=>omega
   exact⟨i+1,y / 2,by omega,rfl,by first|rfl|go_num,by go_num,by rw[HY.out.1,Nat.div_div_eq_div_mul,Nat.pow_succ],by omega,HY.out.2⟩
 have p1:decide ((i:Int)<7-(d:Int) % 8)=false:=decide_eq_false (by omega);have p2:¬(i:Int)<7-(d:Int) % 8:=by omega
 go_wp2;go_ret;have hie:i=7-d % 8:=by omega
 refine⟨?_,HY.out.2⟩;rw[HKB.out];unfold Ck;rw[←hie, ←HY.out.1];rfl
theorem MH (k:List UInt8) (hk:k.length=32) (d:Int) (w:World):Calls Tryz.prog 244 #[.agg (AS k),.int .i64 d] w fun e w'=>e=.returned (.int .i64 (bit k d))∧Ch (fun _=>False) w w':=by
 by_cases h:0≤d∧d<256
 · obtain⟨n,rfl⟩:=Int.eq_ofNat_of_zero_le h.1
   rw[Da (by omega)];exact Jc k hk n (by omega) w
 have:bit k d = -1:=by unfold bit;rw[if_neg h]
 rw[this];exact Ra _ d (by omega) w
theorem Pq:(Tryz.prog.info? 34).map (·.size)=some 32:=by kernel_rfl
theorem Lr {a b:List UInt8} (ha:a.length=32) (hb:b.length=32) {i:Nat} (hi:i≤256) (hp:Store.Pre a b i) (hn:i=256∨Ao a i≠Ao b i):common a b=i:=by
 have h1:=Store.Cz ha hb hi hp
 have h3:common a b≤256:=by
  by_cases e:a=b
  · rw[e,D6,hb];exact Nat.le_refl _
  have:=(Store.CA a b (ha.trans hb.symm) e).1;omega
 rcases hn with rfl|hn
 · omega
 by_cases h2:i<common a b
 · exact absurd (Store.Ec ha hb h2 i (Nat.lt_succ_self i)) hn
 omega
theorem Fb {P:Program} {S:World→Prop} {Q:Exit→Act→World→Prop} {l:List Oper} {n i:Nat} {r:List (Nat×Bool)} {a:Act} {w:World} {o:Oper} (ho:l[i]?=some o) (hw:Region.wanted o (yielded l.toArray a.tmps)=true) (ty:TypeId) (x:Operand) (hop:o.op=.load ty x) (g off k:Nat) (hx:a.eval x=.pointer (some ⟨g,off,none⟩))
 {t:TypeId} {cur:Array Value} {fr:Nat×Nat} {d:TypeDesc} (hg:∀w0,S w0→w0.heap[g]?=some (.cells cur t fr)) (hu:P.underlying ty=some d) (hd:d.isRow=true) (hi:(P.info? ty).map (·.size)=some k) (hfit:off+k≤cur.size) (cs:Array Value) (hv:cur.extract off (off+k)=cs)
 (h:BQ P l Q S n r (a.put o.dst (.agg cs)) w):BQ P l Q S n ((i,false)::r) a w :=
 plan_look ho hw (fun w0 hS=>by
  unfold execOp;simp only[hop,hx,Instr.loadAt,Instr.sureAddr,Sem.run_bind,Sem.run_pure,Result.andThen_ok,BU w0 (hg w0 hS) hu hd hi hfit,hv]) h
theorem G3 (a b:List UInt8) (ha:a.length=32) (hb:b.length=32) (w:World) :
 Calls Tryz.prog 262 #[.agg (AS a),.agg (AS b)] w fun e w'=>e=.returned (.int .i64 (common a b:Nat))∧Ch (fun _=>False) w w':=by
 have hba:=fun d hd w=>Jc a ha d hd w
 have hbb:=fun d hd w=>Jc b hb d hd w
 obtain⟨A,hA⟩:∃A,A=AS a:=⟨_,rfl⟩
 obtain⟨B,hB⟩:∃B,B=AS b:=⟨_,rfl⟩
 have hAs:A.size=32:=by rw[hA,AU,ha]
 have hBs:B.size=32:=by rw[hB,AU,hb]
 rw[←hA] at hba ⊢;rw[←hB] at hbb ⊢;have g1:((w.alloc (.cells A 34)).alloc (.cells B 34)).heap[w.heap.size]?=some (.cells A 34 (0,0)):=AQ (heap_alloc_new _ _) _
 have g2:((w.alloc (.cells A 34)).alloc (.cells B 34)).heap[w.heap.size+1]?=some (.cells B 34 (0,0)):=by
  have:=heap_alloc_new (w.alloc (.cells A 34)) (.cells B 34);simpa using this
 obtain⟨n,hn⟩:∃n,n=w.heap.size:=⟨_,rfl⟩
 have had:Ch (fun _=>False) w ((w.alloc (.cells A 34)).alloc (.cells B 34)):=((Ch.refl _ _).alloc _).alloc _;have HA:=(hIq hAs hba)
 have HB:=(hIq hBs hbb)
 have G:=(hIq g1 (aIq g2 had))
 have HLA:=(hIq ha hb)
 clear hA hB hAs hBs g1 g2 ha hb hba hbb had hn;go_enter Tryz.func262,Tryz.ntmps262;go_wp2_with fail;go_loopg [5] (256) (fun g s5 wr=>∃i:Nat,i≤256∧g=256-i∧s5=.int .i64 (i:Int)∧Store.Pre a b i∧wr.heap[w.heap.size]?=some (.cells A 34 (0,0))∧wr.heap[w.heap.size+1]?=some (.cells B 34 (0,0))∧Ch (fun _=>False) w wr)
 case atStart=>exact⟨0,Nat.zero_le _,rfl,rfl,fun i hi=>absurd hi (Nat.not_lt_zero _),G.out.1,G.out.2.1,G.out.2.2⟩
 obtain⟨i,hi,rfl,rfl,hp,h1,h2,hch⟩:=hrel;have HH:=(hIq hp (aIq hch (aIq h1 h2)))
 clear hp hch h1 h2;by_cases hlt:i<256
 · have p1:decide ((i:Int)<256)=true:=decide_eq_true (by omega)
   go_wp2;refine AP (fun wz=>wz.heap[w.heap.size]?=some (.cells A 34 (0,0))∧wz.heap[w.heap.size+1]?=some (.cells B 34 (0,0))) 11 [(0,false),(1,false),(2,false),(3,false),(4,false),(6,false),(7,false),(5,true),(8,true),(9,false),(10,false)] (by kernel_rfl) (by kernel_rfl) ?_ ?_
   · exact⟨AM HH.out.2.2.1,AM HH.out.2.2.2⟩
   refine plan_look rfl rfl (fun w0 hS=>(by clear hS;go_simp;try rfl)) ?_;simp only[Act.put,nAq,nBq,nCq]
   iterate 2
    refine plan_look (v:=.bool true) rfl rfl (fun w0 hS=>(by clear hS;go_simp;try rfl)) ?_;simp only[Act.put,nAq,nBq,nCq]
   refine Fb (cur:=A) (t:=34) (fr:=(0,0)) rfl rfl 34 _ rfl w.heap.size 0 32 rfl (fun w0 hS=>hS.1) Tryz.underlying34 rfl Pq (by rw[HA.out.1];omega) A (by have:=HA.out.1;simp[←this]) ?_;simp only[Act.put,nAq,nBq,nCq];refine plan_look rfl rfl (fun w0 hS=>(by clear hS;go_simp;try rfl)) ?_;simp only[Act.put,nAq,nBq,nCq];refine Fb (cur:=B) (t:=34) (fr:=(0,0)) rfl rfl 34 _ rfl (w.heap.size+1) 0 32 rfl (fun w0 hS=>hS.2) Tryz.underlying34 rfl Pq (by rw[HB.out.1];omega) B (by have:=HB.out.1;simp[←this]) ?_;simp only[Act.put,nAq,nBq,nCq];refine plan_look rfl rfl (fun w0 hS=>(by clear hS;go_simp;try rfl)) ?_;simp only[Act.put,nAq,nBq,nCq];refine AW rfl ?_;go_wp2_with fail;refine(HA.out.2 i hlt _).mono ?_;rintro e w3 ⟨rfl,a3⟩;have A3:=(hIq ((HH.out.2.1.drew).trans a3 (fun _=>fEq)) (aIq (a3.row (AM HH.out.2.2.1) id) (a3.row (AM HH.out.2.2.2) id)))
   clear a3;dsimp only;go_step;refine wpList_nil ?_;change _∧_;refine⟨A3.out.2,?_⟩;refine AW rfl ?_;go_wp2_with fail;refine(HB.out.2 i hlt _).mono ?_;rintro e w4 ⟨rfl,a4⟩;have A4:=(hIq (A3.out.1.trans a4 (fun _=>fEq)) (aIq (a4.row A3.out.2.1 id) (a4.row A3.out.2.2 id)))
   clear a4;dsimp only;go_step;refine wpList_nil ?_;change _∧_;refine⟨A4.out.2,?_⟩;obtain⟨x,hx⟩:∃x,x=Ao a i:=⟨_,rfl⟩
   obtain⟨y,hy⟩:∃y,y=Ao b i:=⟨_,rfl⟩
   simp only[←hx, ←hy];have HXY:=(hIq hx hy)
   clear hx hy;by_cases hxy:x=y
   · have q1:((x:Int) == (y:Int))=true:=by rw[hxy];simp
     have q2:decide ((x:Int)=(y:Int))=true:=by rw[hxy];simp
     refine plan_look (v:=.bool true) rfl rfl (fun w0 hS=>(by clear hS;go_simp;try rfl)) ?_;simp only[Act.put,nAq,nBq,nCq];refine plan_look (v:=.bool true) rfl rfl (fun w0 hS=>(by clear hS;go_simp;try rfl)) ?_;simp only[Act.put,nAq,nBq,nCq];refine AZ ?_;simp only[List.drop_succ_cons,List.drop_zero];go_wp2;refine NoPanic.normal ?_;go_wp2;go_roundg (256-(i+1))
     case measure=>omega
     refine⟨i+1,by omega,rfl,by first|rfl|go_num,fun j hj=>?_,A4.out.2.1,A4.out.2.2,A4.out.1⟩;by_cases hji:j<i
     · exact HH.out.1 j hji
     rw[show j=i by omega, ←HXY.out.1, ←HXY.out.2];exact hxy
   have q1:((x:Int) == (y:Int))=false:=by simp;omega
   have q2:decide ((x:Int)=(y:Int))=false:=decide_eq_false (by omega);refine plan_look (v:=.bool false) rfl rfl (fun w0 hS=>(by clear hS;go_simp;try rfl)) ?_;simp only[Act.put,nAq,nBq,nCq];refine plan_look (v:=.bool false) rfl rfl (fun w0 hS=>(by clear hS;go_simp;try rfl)) ?_;simp only[Act.put,nAq,nBq,nCq];refine AZ ?_;simp only[List.drop_succ_cons,List.drop_zero];go_wp2;refine NoPanic.normal ?_;go_wp2;go_ret;exact⟨by rw[Lr HLA.out.1 HLA.out.2 hi HH.out.1 (.inr (by rw[←HXY.out.1, ←HXY.out.2];exact hxy))];rfl,A4.out.1⟩
 have he:i=256:=by omega
 subst he;have p1:decide (((256:Nat):Int)<256)=false:=by decide
 go_wp2;refine AP (fun wz=>True) 11 [(0,false),(1,false),(2,false),(3,false),(4,false),(6,false),(7,false),(5,true),(8,true),(9,false),(10,false)] (by kernel_rfl) (by kernel_rfl) ?_ ?_
 · trivial
 refine plan_look rfl rfl (fun w0 hS=>(by clear hS;go_simp;try rfl)) ?_;simp only[Act.put,nAq,nBq,nCq]
 iterate 2
  refine plan_look (v:=.bool false) rfl rfl (fun w0 hS=>(by clear hS;go_simp;try rfl)) ?_;simp only[Act.put,nAq,nBq,nCq]
 iterate 4
  refine BN rfl rfl ?_;simp only[Act.put,nAq,nBq,nCq]
 iterate 2
  refine AW rfl ?_;go_wp2;refine⟨trivial,?_⟩
 refine BN rfl rfl ?_;simp only[Act.put,nAq,nBq,nCq];refine plan_look (v:=.bool false) rfl rfl (fun w0 hS=>(by clear hS;go_simp;try rfl)) ?_;simp only[Act.put,nAq,nBq,nCq];refine AZ ?_;simp only[List.drop_succ_cons,List.drop_zero];go_wp2;refine NoPanic.normal ?_;go_wp2;go_ret;exact⟨by rw[Lr HLA.out.1 HLA.out.2 (Nat.le_refl _) HH.out.1 (.inl rfl)];rfl,HH.out.2.1.drew⟩
end Go.Proofs.YtngbdbpofifimaaGreat.Path
