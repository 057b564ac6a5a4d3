/- Laws of the layers below. -/
import Derived.Test.YtooijgcildbnlaaGreatQg21
set_option maxHeartbeats 3200000
set_option maxRecDepth 100000
set_option linter.unusedVariables false
namespace Go.Proofs.YtooijgcildbnlaaGreat.Path
open Go.RowKit
theorem Io (k:List UInt8) (hk:k.length=32) (d:Nat) (hd:d<256) (w:World):Calls Tryz.prog 265 #[.agg (AJ k),.int .i64 (d:Int)] w fun e w'=>e=.returned (.int .i64 (BE k d:Nat))∧Ch (fun _=>False) w w':=by
 have hx:=DN (l:=k) (i:=d / 8) (by omega);have hkb:BE k d=CP (k.getD (d / 8) 0) (d % 8):=rfl;generalize k.getD (d / 8) 0=x at hx hkb;obtain⟨K,hK⟩:∃K,K=AJ k:=⟨_,rfl⟩
 rw[←hK] at hx ⊢;have h0:(0:Int)≤(d:Int):=by omega
 have h1:(d:Int)<256:=by omega
 have h2:¬(256:Int)≤(d:Int):=by omega
 have n1:(0:Int)≤(d:Int) / 8:=by omega
 have n2:(d:Int) / 8<32:=by omega
 have n3:((d:Int) / 8).toNat=d / 8:=by omega
 have c0:(w.alloc (.cells K 23)).cell? ⟨w.heap.size,d / 8,none⟩=some (bv x):=AG (heap_alloc_new _ _) hx;have HKB:=Lib.hid hkb;clear hkb hK hx;go_enter Tryz.func265,Tryz.ntmps265;go_wp2_with fail;go_loopg [5,6] (7-d % 8) (fun g s5 s6 wr=>∃i y:Nat,i≤7-d % 8∧g=7-d % 8-i∧s5=.int .i64 (y:Int)∧s6=.int .i64 (i:Int)∧y=x.toNat / 2 ^ i∧y≤255∧Ch (fun _=>False) w wr)
 case atStart=>exact⟨0,x.toNat,Nat.zero_le _,rfl,by have:=x.toNat_lt;first|rfl|rw[show wrap64 (x.toNat:Int)=x.toNat by unfold wrap64;omega],rfl,by simp,by have:=x.toNat_lt;omega,(Ch.refl _ _).alloc _⟩
 obtain⟨i,y,hi,rfl,rfl,rfl,hy,hy2,hch⟩:=hrel;have HY:=(hIq hy hch)
 clear hy hch;have e8:d % 8<8:=Nat.mod_lt _ (by decide);by_cases hlt:i<7-d % 8
 · have p1:decide ((i:Int)<7-(d:Int) % 8)=true:=decide_eq_true (by omega)
   have p2:(i:Int)<7-(d:Int) % 8:=by omega
   go_wp2;go_roundg (7-d % 8-(i+1))
   case measure=>omega
   exact⟨i+1,y / 2,by omega,rfl,by first|rfl|go_num,by go_num,by rw[HY.out.1,Nat.div_div_eq_div_mul,Nat.pow_succ],by omega,HY.out.2⟩
 have p1:decide ((i:Int)<7-(d:Int) % 8)=false:=decide_eq_false (by omega);have p2:¬(i:Int)<7-(d:Int) % 8:=by omega
 go_wp2;go_ret;have hie:i=7-d % 8:=by omega
 refine⟨?_,HY.out.2⟩;rw[HKB.out];unfold CP;rw[←hie, ←HY.out.1];rfl
theorem Cc:(Tryz.prog.info? 23).map (·.size)=some 32:=by kernel_rfl
theorem L5 {a b:List UInt8} (ha:a.length=32) (hb:b.length=32) {i:Nat} (hi:i≤256) (hp:Store.Pre a b i) (hn:i=256∨BE a i≠BE b i):common a b=i:=by
 have h1:=Store.I5 ha hb hi hp
 have h3:common a b≤256:=by
  by_cases e:a=b
  · rw[e,FB,hb];exact Nat.le_refl _
  have:=(Store.ER a b (ha.trans hb.symm) e).1;omega
 rcases hn with rfl|hn
 · omega
 by_cases h2:i<common a b
 · exact absurd (Store.F7 ha hb h2 i (Nat.lt_succ_self i)) hn
 omega
theorem Fz {P:Program} {S:World→Prop} {Q:Exit→Act→World→Prop} {l:List Oper} {n i:Nat} {r:List (Nat×Bool)} {a:Act} {w:World} {o:Oper} (ho:l[i]?=some o) (hw:Region.wanted o (yielded l.toArray a.tmps)=true) (ty:TypeId) (x:Operand) (hop:o.op=.load ty x) (g off k:Nat) (hx:a.eval x=.pointer (some ⟨g,off,none⟩))
 {t:TypeId} {cur:Array Value} {fr:Nat×Nat} {d:TypeDesc} (hg:∀w0,S w0→w0.heap[g]?=some (.cells cur t fr)) (hu:P.underlying ty=some d) (hd:d.isRow=true) (hi:(P.info? ty).map (·.size)=some k) (hfit:off+k≤cur.size) (cs:Array Value) (hv:cur.extract off (off+k)=cs)
 (h:Bg P l Q S n r (a.put o.dst (.agg cs)) w):Bg P l Q S n ((i,false)::r) a w :=
 plan_look ho hw (fun w0 hS=>by
  unfold execOp;simp only[hop,hx,Instr.loadAt,Instr.sureAddr,Sem.run_bind,Sem.run_pure,Result.andThen_ok,Bb w0 (hg w0 hS) hu hd hi hfit,hv]) h
theorem O0 (a b:List UInt8) (ha:a.length=32) (hb:b.length=32) (w:World) :
 Calls Tryz.prog 279 #[.agg (AJ a),.agg (AJ b)] w fun e w'=>e=.returned (.int .i64 (common a b:Nat))∧Ch (fun _=>False) w w':=by
 have hba:=fun d hd w=>Io a ha d hd w
 have hbb:=fun d hd w=>Io b hb d hd w
 obtain⟨A,hA⟩:∃A,A=AJ a:=⟨_,rfl⟩
 obtain⟨B,hB⟩:∃B,B=AJ b:=⟨_,rfl⟩
 have hAs:A.size=32:=by rw[hA,AY,ha]
 have hBs:B.size=32:=by rw[hB,AY,hb]
 rw[←hA] at hba ⊢;rw[←hB] at hbb ⊢;have g1:((w.alloc (.cells A 23)).alloc (.cells B 23)).heap[w.heap.size]?=some (.cells A 23 (0,0)):=AM (heap_alloc_new _ _) _
 have g2:((w.alloc (.cells A 23)).alloc (.cells B 23)).heap[w.heap.size+1]?=some (.cells B 23 (0,0)):=by
  have:=heap_alloc_new (w.alloc (.cells A 23)) (.cells B 23);simpa using this
 obtain⟨n,hn⟩:∃n,n=w.heap.size:=⟨_,rfl⟩
 have had:Ch (fun _=>False) w ((w.alloc (.cells A 23)).alloc (.cells B 23)):=((Ch.refl _ _).alloc _).alloc _;have HA:=(hIq hAs hba)
 have HB:=(hIq hBs hbb)
 have G:=(hIq g1 (aIq g2 had))
 have HLA:=(hIq ha hb)
 clear hA hB hAs hBs g1 g2 ha hb hba hbb had hn;go_enter Tryz.func279,Tryz.ntmps279;go_wp2_with fail;go_loopg [5] (256) (fun g s5 wr=>∃i:Nat,i≤256∧g=256-i∧s5=.int .i64 (i:Int)∧Store.Pre a b i∧wr.heap[w.heap.size]?=some (.cells A 23 (0,0))∧wr.heap[w.heap.size+1]?=some (.cells B 23 (0,0))∧Ch (fun _=>False) w wr)
 case atStart=>exact⟨0,Nat.zero_le _,rfl,rfl,fun i hi=>absurd hi (Nat.not_lt_zero _),G.out.1,G.out.2.1,G.out.2.2⟩
 obtain⟨i,hi,rfl,rfl,hp,h1,h2,hch⟩:=hrel;have HH:=(hIq hp (aIq hch (aIq h1 h2)))
 clear hp hch h1 h2;by_cases hlt:i<256
 · have p1:decide ((i:Int)<256)=true:=decide_eq_true (by omega)
   go_wp2;refine AS (fun wz=>wz.heap[w.heap.size]?=some (.cells A 23 (0,0))∧wz.heap[w.heap.size+1]?=some (.cells B 23 (0,0))) 11 [(0,false),(1,false),(2,false),(3,false),(4,false),(6,false),(7,false),(5,true),(8,true),(9,false),(10,false)] (by kernel_rfl) (by kernel_rfl) ?_ ?_
   · exact⟨AQ HH.out.2.2.1,AQ HH.out.2.2.2⟩
   refine plan_look rfl rfl (fun w0 hS=>(by clear hS;go_simp;try rfl)) ?_;simp only[Act.put,nAq,nBq,nCq]
   iterate 2
    refine plan_look (v:=.bool true) rfl rfl (fun w0 hS=>(by clear hS;go_simp;try rfl)) ?_;simp only[Act.put,nAq,nBq,nCq]
   refine Fz (cur:=A) (t:=23) (fr:=(0,0)) rfl rfl 23 _ rfl w.heap.size 0 32 rfl (fun w0 hS=>hS.1) Tryz.underlying23 rfl Cc (by rw[HA.out.1];omega) A (by have:=HA.out.1;simp[←this]) ?_;simp only[Act.put,nAq,nBq,nCq];refine plan_look rfl rfl (fun w0 hS=>(by clear hS;go_simp;try rfl)) ?_;simp only[Act.put,nAq,nBq,nCq];refine Fz (cur:=B) (t:=23) (fr:=(0,0)) rfl rfl 23 _ rfl (w.heap.size+1) 0 32 rfl (fun w0 hS=>hS.2) Tryz.underlying23 rfl Cc (by rw[HB.out.1];omega) B (by have:=HB.out.1;simp[←this]) ?_;simp only[Act.put,nAq,nBq,nCq];refine plan_look rfl rfl (fun w0 hS=>(by clear hS;go_simp;try rfl)) ?_;simp only[Act.put,nAq,nBq,nCq];refine Ah rfl ?_;go_wp2_with fail;refine(HA.out.2 i hlt _).mono ?_;rintro e w3 ⟨rfl,a3⟩;have A3:=(hIq ((HH.out.2.1.drew).trans a3 (fun _=>fEq)) (aIq (a3.row (AQ HH.out.2.2.1) id) (a3.row (AQ HH.out.2.2.2) id)))
   clear a3;dsimp only;go_step;refine wpList_nil ?_;change _∧_;refine⟨A3.out.2,?_⟩;refine Ah rfl ?_;go_wp2_with fail;refine(HB.out.2 i hlt _).mono ?_;rintro e w4 ⟨rfl,a4⟩;have A4:=(hIq (A3.out.1.trans a4 (fun _=>fEq)) (aIq (a4.row A3.out.2.1 id) (a4.row A3.out.2.2 id)))
   clear a4;dsimp only;go_step;refine wpList_nil ?_;change _∧_;refine⟨A4.out.2,?_⟩;obtain⟨x,hx⟩:∃x,x=BE a i:=⟨_,rfl⟩
   obtain⟨y,hy⟩:∃y,y=BE b i:=⟨_,rfl⟩
   simp only[←hx, ←hy];have HXY:=(hIq hx hy)
   clear hx hy;by_cases hxy:x=y
   · have q1:((x:Int) == (y:Int))=true:=by rw[hxy];simp
     have q2:decide ((x:Int)=(y:Int))=true:=by rw[hxy];simp
     refine plan_look (v:=.bool true) rfl rfl (fun w0 hS=>(by clear hS;go_simp;try rfl)) ?_;simp only[Act.put,nAq,nBq,nCq];refine plan_look (v:=.bool true) rfl rfl (fun w0 hS=>(by clear hS;go_simp;try rfl)) ?_;simp only[Act.put,nAq,nBq,nCq];refine Ae ?_;simp only[List.drop_succ_cons,List.drop_zero];go_wp2;refine NoPanic.normal ?_;go_wp2;go_roundg (256-(i+1))
     case measure=>omega
     refine⟨i+1,by omega,rfl,by first|rfl|go_num,fun j hj=>?_,A4.out.2.1,A4.out.2.2,A4.out.1⟩;by_cases hji:j<i
     · exact HH.out.1 j hji
     rw[show j=i by omega, ←HXY.out.1, ←HXY.out.2];exact hxy
   have q1:((x:Int) == (y:Int))=false:=by simp;omega
   have q2:decide ((x:Int)=(y:Int))=false:=decide_eq_false (by omega);refine plan_look (v:=.bool false) rfl rfl (fun w0 hS=>(by clear hS;go_simp;try rfl)) ?_;simp only[Act.put,nAq,nBq,nCq];refine plan_look (v:=.bool false) rfl rfl (fun w0 hS=>(by clear hS;go_simp;try rfl)) ?_;simp only[Act.put,nAq,nBq,nCq];refine Ae ?_;simp only[List.drop_succ_cons,List.drop_zero];go_wp2;refine NoPanic.normal ?_;go_wp2;go_ret;exact⟨by rw[L5 HLA.out.1 HLA.out.2 hi HH.out.1 (.inr (by rw[←HXY.out.1, ←HXY.out.2];exact hxy))];rfl,A4.out.1⟩
 have he:i=256:=by omega
 subst he;have p1:decide (((256:Nat):Int)<256)=false:=by decide
 go_wp2;refine AS (fun wz=>True) 11 [(0,false),(1,false),(2,false),(3,false),(4,false),(6,false),(7,false),(5,true),(8,true),(9,false),(10,false)] (by kernel_rfl) (by kernel_rfl) ?_ ?_
 · trivial
 refine plan_look rfl rfl (fun w0 hS=>(by clear hS;go_simp;try rfl)) ?_;simp only[Act.put,nAq,nBq,nCq]
 iterate 2
  refine plan_look (v:=.bool false) rfl rfl (fun w0 hS=>(by clear hS;go_simp;try rfl)) ?_;simp only[Act.put,nAq,nBq,nCq]
 iterate 4
  refine D8 rfl rfl ?_;simp only[Act.put,nAq,nBq,nCq]
 iterate 2
  refine Ah rfl ?_;go_wp2;refine⟨trivial,?_⟩
 refine D8 rfl rfl ?_;simp only[Act.put,nAq,nBq,nCq];refine plan_look (v:=.bool false) rfl rfl (fun w0 hS=>(by clear hS;go_simp;try rfl)) ?_;simp only[Act.put,nAq,nBq,nCq];refine Ae ?_;simp only[List.drop_succ_cons,List.drop_zero];go_wp2;refine NoPanic.normal ?_;go_wp2;go_ret;exact⟨by rw[L5 HLA.out.1 HLA.out.2 (Nat.le_refl _) HH.out.1 (.inl rfl)];rfl,HH.out.2.1.drew⟩
end Go.Proofs.YtooijgcildbnlaaGreat.Path
namespace Go.Proofs.YtooijgcildbnlaaGreat.Store
open Go.RowKit Go.Sort Go.Proofs.YtooijgcildbnlaaGreat.ShaW Go.Proofs.YtooijgcildbnlaaGreat.Path Go.Proofs.YtooijgcildbnlaaGreat.CI
def J2 (d:Nat) (n:Nat) (k0:List UInt8) (i:Nat) (k:List UInt8):Prop:=BE k d=(if i<n then 0 else 1)∧d≤common k k0
theorem Rep.Xa {f:View} (hf:Fit f) {h:Int} {d:Nat} {t:Tr} (hr:Rep f h d t):∀e∈t.Ai,e.1.length=32∧Pre e.1 (ndF f h).key d∧h≠0:=fun e he=>by
 obtain⟨h1,h2,_⟩:=hr.Ai hf;rcases hr.live with h0|⟨n,hn⟩
 · rw[h0] at hr;rw[hr.Ez hf.zero] at he;cases he
 rw[By hn];refine⟨(h1 e he).1,?_,hf.ne hn⟩;by_cases hk:n.kind=2
 · exact(h2 n hn e he).1 hk
 rw[(h2 n hn e he).2 hk];exact fun _ _=>rfl
theorem Q4 {f:View} (hf:Fit f) {d:Nat} (hd:d≤255) {l r:Int} {tl tr:Tr} (hl:Rep f l (d+1) tl) (hr:Rep f r (d+1) tr) (h0:¬(l=0∧r=0)) (h1:l=0→(ndF f r).kind=2) (h2:r=0→(ndF f l).kind=2)
 (g1:(ndF f l).kind=2→(ndF f l).depth=(d:Int)+1) (g2:(ndF f r).kind=2→(ndF f r).depth=(d:Int)+1) :
 fitsB d l r (ndF f l) (ndF f r)=true↔∀i e e0,(tl.Ai++tr.Ai)[i]?=some e→(tl.Ai++tr.Ai)[0]?=some e0→J2 d tl.Ai.length e0.1 i e.1:=by
 have nl:=hl.Xa hf;have nr:=hr.Xa hf;have ml:=(Rep.many hf hl).1;have mr:=(Rep.many hf hr).1
 have keyl:l≠0→(ndF f l).key.length=32:=fun h=>by
  rcases hl.live with h0|⟨n,hn⟩
  · exact absurd h0 h
  rw[By hn];exact(hf.all _ _ hn).key
 have keyr:r≠0→(ndF f r).key.length=32:=fun h=>by
  rcases hr.live with h0|⟨n,hn⟩
  · exact absurd h0 h
  rw[By hn];exact(hf.all _ _ hn).key
 obtain⟨L,hL⟩:∃L,L=ndF f l:=⟨_,rfl⟩
 obtain⟨R,hR⟩:∃R,R=ndF f r:=⟨_,rfl⟩
 simp only[←hL] at *;simp only[←hR] at *;have hd2:d<256:=by omega
 constructor
 · intro hfit i e e0 he he0
   have bl:l≠0→BE L.key d=0:=fun h=>by
    have:=FV (P9 hfit h);rw[Hi hd2] at this;omega
   have br:r≠0→BE R.key d=1:=fun h=>by
    have:=FV (P2 hfit h);rw[Hi hd2] at this;omega
   have hc:l≠0→r≠0→Pre L.key R.key d:=fun a b=>F7 (keyl a) (keyr b) (by have:=TQ hfit a b;omega)
   have hm:=List.mem_of_getElem? he;have hm0:=List.mem_of_getElem? he0
   have pl:∀x∈tl.Ai,∀y∈tl.Ai++tr.Ai,Pre x.1 y.1 d:=fun x hx y hy=>by
    obtain⟨a1,a2,a3⟩:=nl x hx;rcases List.mem_append.1 hy with hy|hy
    · exact(a2.less (Nat.le_succ d)).trans ((nl y hy).2.1.less (Nat.le_succ d)).symm
    obtain⟨b1,b2,b3⟩:=nr y hy;exact(a2.less (Nat.le_succ d)).trans ((hc a3 b3).trans (b2.less (Nat.le_succ d)).symm)
   have pa:∀x∈tl.Ai++tr.Ai,∀y∈tl.Ai++tr.Ai,Pre x.1 y.1 d:=fun x hx y hy=>by
    rcases List.mem_append.1 hx with hx' | hx'
    · exact pl x hx' y hy
    rcases List.mem_append.1 hy with hy' | hy'
    · exact(pl y hy' x hx).symm
    exact((nr x hx').2.1.less (Nat.le_succ d)).trans ((nr y hy').2.1.less (Nat.le_succ d)).symm
   have len:∀x∈tl.Ai++tr.Ai,x.1.length=32:=fun x hx=>(List.mem_append.1 hx).elim (fun h=>(nl x h).1) (fun h=>(nr x h).1)
   refine⟨?_,I5 (len e hm) (len e0 hm0) (by omega) (pa e hm e0 hm0)⟩;by_cases hi:i<tl.Ai.length
   · rw[if_pos hi]
     rw[List.getElem?_append_left hi] at he;obtain⟨a1,a2,a3⟩:=nl e (List.mem_of_getElem? he);rw[a2 d (Nat.lt_succ_self d)];exact bl a3
   rw[if_neg hi];rw[List.getElem?_append_right (by omega)] at he;obtain⟨a1,a2,a3⟩:=nr e (List.mem_of_getElem? he);rw[a2 d (Nat.lt_succ_self d)];exact br a3
 intro hall
 have fl:l≠0→Cm L d 0=true∧∃e0,tl.Ai[0]?=some e0∧(tl.Ai++tr.Ai)[0]?=some e0:=fun h=>by
  have hp:=ml h;have hg:tl.Ai[0]?=some tl.Ai[0]:=List.getElem?_eq_getElem hp;have hg':(tl.Ai++tr.Ai)[0]?=some tl.Ai[0]:=by rw[List.getElem?_append_left hp];exact hg
  have hrow:=(hall 0 _ _ hg' hg').1;rw[if_pos (show 0<tl.Ai.length from hp)] at hrow;refine⟨QT g1 ?_,_,hg,hg'⟩;rw[Hi hd2, ←(nl _ (List.mem_of_getElem? hg)).2.1 d (Nat.lt_succ_self d),hrow];rfl
 have fr:r≠0→Cm R d 1=true∧∃e,tr.Ai[0]?=some e∧(tl.Ai++tr.Ai)[tl.Ai.length]?=some e:=fun h=>by
  have hp:=mr h;have hg:tr.Ai[0]?=some tr.Ai[0]:=List.getElem?_eq_getElem hp;have hg':(tl.Ai++tr.Ai)[tl.Ai.length]?=some tr.Ai[0]:=by rw[List.getElem?_append_right (Nat.le_refl _),Nat.sub_self];exact hg
  have h00:∃e0,(tl.Ai++tr.Ai)[0]?=some e0:=by
   refine⟨(tl.Ai++tr.Ai)[0]'(by rw[List.length_append];omega),List.getElem?_eq_getElem _⟩
  obtain⟨e0,he0⟩:=h00;have hrow:=(hall _ _ _ hg' he0).1;rw[if_neg (Nat.lt_irrefl _)] at hrow;refine⟨QT g2 ?_,_,hg,hg'⟩;rw[Hi hd2, ←(nr _ (List.mem_of_getElem? hg)).2.1 d (Nat.lt_succ_self d),hrow];rfl
 unfold fitsB;by_cases hl0:l=0
 · have hr0:r≠0:=fun h=>h0 ⟨hl0,h⟩
   rw[if_pos hl0,if_neg hr0,(fr hr0).1,decide_eq_true (h1 hl0)];rfl
 rw[if_neg hl0];by_cases hr0:r=0
 · rw[if_pos hr0,(fl hl0).1,decide_eq_true (h2 hr0)];rfl
 obtain⟨a1,e0,a2,a3⟩:=fl hl0;obtain⟨b1,e,b2,b3⟩:=fr hr0;have hc:=(hall _ _ _ b3 a3).2;have m1:=nr e (List.mem_of_getElem? b2);have m0:=nl e0 (List.mem_of_getElem? a2);have hp:=F7 m1.1 m0.1 hc;have:d≤common L.key R.key:=I5 (keyl hl0) (keyr hr0) (by omega) (((m0.2.1.less (Nat.le_succ d)).symm.trans hp.symm).trans (m1.2.1.less (Nat.le_succ d)));rw[if_neg hr0,a1,b1,decide_eq_true (by omega)];rfl
end Go.Proofs.YtooijgcildbnlaaGreat.Store
