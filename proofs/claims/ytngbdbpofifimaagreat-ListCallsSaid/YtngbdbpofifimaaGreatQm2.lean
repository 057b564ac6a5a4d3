/- Laws of the layers below. -/
import Derived.Test.YtngbdbpofifimaaGreatQm1
import Derived.ChangeKeysEq
import Derived.Laws.StructEq
import Derived.Test.YtngbdbpofifimaaGreatProg
import Derived.BigQuiet
import Derived.StillTailTactics
import Derived.IntWalk
import Derived.Deep.LoopGhost
import Derived.Deep.DeepMust
set_option maxHeartbeats 3200000
set_option maxRecDepth 100000
set_option linter.unusedVariables false
namespace Go.Proofs.YtngbdbpofifimaaGreat
open Go.RowKit
section
variable {P : Program}
theorem Gs (w:World) (e:TypeId) (hagg:(isAgg e).run P w=.ok false w) (cs:Array Value) (i:Nat) (v:Value) (h:cs[i]?=some v):(part e cs i).run P w=.ok v w:=by
 unfold part;simp only[Sem.run_bind,hagg,Result.andThen_ok];simp only[Bool.false_eq_true,if_false,h,Sem.run_pure]
theorem Fs (w:World) (e:TypeId) (k':IntKind) (hagg:(isAgg e).run P w=.ok false w) (he:P.underlying e=some (.int k')) (d:Nat) (a b:List UInt8):∀(m k:Nat),k+m≤a.length→k+m≤b.length →
 (Op.eqItems (d+1) e 1 (AS a) (AS b) (List.range' k m)).run P w=.ok (decide ((a.drop k).take m=(b.drop k).take m)) w
 | 0,k,_,_=>by simp[Op.eqItems]
 | m+1,k,ha,hb=>by
  have ea:=Dd (l:=a) (i:=k) (by omega);have eb:=Dd (l:=b) (i:=k) (by omega);have ih:=Fs w e k' hagg he d a b m (k+1) (by omega) (by omega);rw[List.range'_succ];simp only[Op.eqItems,Sem.run_bind,Nat.mul_one,Gs w e hagg _ k _ ea,Gs w e hagg _ k _ eb,Result.andThen_ok,run_equalIn_int w d e .u8 k' _ _ he]
  have da:(a.drop k).take (m+1)=a.getD k 0::(a.drop (k+1)).take m:=by
   rw[List.drop_eq_getElem_cons (by omega),List.take_succ_cons];simp[List.getElem?_eq_getElem (show k<a.length by omega)]
  have db:(b.drop k).take (m+1)=b.getD k 0::(b.drop (k+1)).take m:=by
   rw[List.drop_eq_getElem_cons (by omega),List.take_succ_cons];simp[List.getElem?_eq_getElem (show k<b.length by omega)]
  rw[da,db];by_cases h:a.getD k 0=b.getD k 0
  · rw[h]
    simp only[beq_self_eq_true,Bool.not_true,Bool.false_eq_true,if_false];rw[ih];simp
  have hne:(((a.getD k 0).toNat:Int) == ((b.getD k 0).toNat:Int))=false:=by
   rw[beq_eq_false_iff_ne];intro e;exact h (UInt8.toNat_inj.1 (by omega))
  simp only[hne,Bool.not_false,if_true,Sem.run_pure]
  congr 1
  symm
  rw[decide_eq_false_iff_not];intro hc;exact h (List.cons.inj hc).1
theorem Fo (w:World) (t e:TypeId) (n:Nat) (k':IntKind) (i:TypeInfo) (hu:P.underlying t=some (.array n e)) (hi:P.info? e=some i) (hC:P.cellsOf e=1) (hagg:(isAgg e).run P w=.ok false w) (he:P.underlying e=some (.int k')) (d:Nat)
 (a b:List UInt8) (ha:a.length=n) (hb:b.length=n):(Op.equalIn (d+2) t (.agg (AS a)) (.agg (AS b))).run P w=.ok (decide (a=b)) w:=by
 rw[run_equalIn_array w (d+1) _ _ hu hi,hC,List.range_eq_range',Fs w e k' hagg he d a b n 0 (by omega) (by omega)]
 congr 1
 simp only[List.drop_zero];rw[List.take_of_length_le (by omega),List.take_of_length_le (by omega)]
end
end Go.Proofs.YtngbdbpofifimaaGreat
namespace Go.Proofs.YtngbdbpofifimaaGreat.Path
open Go.RowKit
def Ck (x:UInt8) (i:Nat):Nat:=x.toNat / 2 ^ (7-i) % 2
def Ao (k:List UInt8) (d:Nat):Nat:=Ck (k.getD (d / 8) 0) (d % 8)
def bit (k:List UInt8) (d:Int):Int:=if 0≤d∧d<256 then (Ao k d.toNat:Nat) else -1
def mask (i:Nat):Nat:=128 / 2 ^ i
def lead (x:UInt8):Nat:=if x.toNat=0 then 8 else 7-Nat.log2 x.toNat
def common:List UInt8→List UInt8→Nat
 | a::l,b::m=>if a=b then 8+common l m else lead (a ^^^ b)
 | _,_=>0
def kept (x:UInt8) (Ae:Int):UInt8:=if Ae≤0 then 0 else if Ae<8 then UInt8.ofNat (x.toNat / 2 ^ (8-Ae.toNat)*2 ^ (8-Ae.toNat)) else x
def Dl (d:Int):Int→List UInt8→List UInt8
 | _,[] => []
 | i,x::l=>kept x (d-8*i)::Dl d (i+1) l
def first (k:List UInt8) (d:Int):List UInt8:=Dl d 0 k
theorem RQ:∀(x:Fin 256) (i:Fin 8),(x.val &&& mask i.val=0)=(x.val / 2 ^ (7-i.val) % 2=0):=by decide +kernel
theorem Qp (x:UInt8) (i:Nat) (h:i<8):(x.toNat &&& mask i=0)↔Ck x i=0:=by
 have:=RQ ⟨x.toNat,x.toNat_lt⟩ ⟨i,h⟩;simp only at this;rw[this];rfl
theorem Ut (x:UInt8) (i:Nat):Ck x i<2:=Nat.mod_lt _ (by omega)
theorem Ke (x:UInt8) (i:Nat):Ck x i=0∨Ck x i=1:=by have:=Ut x i;omega
theorem BX (k:List UInt8) (d:Nat):Ao k d=0∨Ao k d=1:=Ke _ _
theorem Da {k:List UInt8} {d:Nat} (h:d<256):bit k d=(Ao k d:Nat):=by unfold bit;rw[if_pos (by omega)];rfl
theorem FF (d:Int):∀(i:Int) (l:List UInt8),(Dl d i l).length=l.length
 | _,[]=>rfl
 | i,x::l=>by simp[Dl,FF d (i+1) l]
theorem CN (k:List UInt8) (d:Int):(first k d).length=k.length:=FF d 0 k
theorem Ex (d:Int):∀(i:Int) (l:List UInt8) (n:Nat) (x:UInt8),l[n]?=some x→(Dl d i l)[n]?=some (kept x (d-8*(i+n)))
 | _,[],n,x,h=>by simp at h
 | i,y::l,0,x,h=>by simp at h;subst h;simp[Dl]
 | i,y::l,n+1,x,h=>by
  have:=Ex d (i+1) l n x (by simpa using h);simp only[Dl,List.getElem?_cons_succ,this]
  congr 2
  omega
theorem D6:∀(a:List UInt8),common a a=8*a.length
 | []=>rfl
 | x::a=>by simp[common,D6 a];omega
theorem Li:∀(a b:List UInt8) (i:Nat) (x y:UInt8),a.take i=b.take i→a[i]?=some x→b[i]?=some y→x≠y→common a b=8*i+lead (x ^^^ y)
 | [],_,i,x,y,_,h,_,_=>by simp at h
 | _::_,[],i,x,y,_,_,h,_=>by simp at h
 | c::a,e::b,0,x,y,_,h1,h2,hne=>by
  simp at h1 h2;subst h1 h2;simp[common,hne]
 | c::a,e::b,i+1,x,y,ht,h1,h2,hne=>by
  simp only[List.take_succ_cons,List.cons.injEq] at ht;obtain⟨rfl,ht⟩:=ht;have:=Li a b i x y ht (by simpa using h1) (by simpa using h2) hne;simp only[common,if_true,this];omega
theorem UO (d:Nat) (hd:d<256) (w:World):Calls Tryz.prog 207 #[.int .i64 (d:Int)] w fun e w'=>e=.returned (.int .u8 (mask (d % 8):Nat))∧w'=w:=by
 have h0:(0:Int)≤(d:Int):=by omega
 have h1:(d:Int)<256:=by omega
 have h8:d % 8=0∨d % 8=1∨d % 8=2∨d % 8=3∨d % 8=4∨d % 8=5∨d % 8=6∨d % 8=7:=by omega
 rcases h8 with h|h|h|h|h|h|h|h
 all_goals
  have hi:=congrArg (fun n:Nat=>(n:Int)) h;simp only[Int.natCast_emod] at hi;have H:=Lib.hid h;clear h;go_enter Tryz.func207,Tryz.ntmps207;go_wp2;go_ret;exact⟨by rw[H.out];rfl,rfl⟩
theorem U6 (K:Array Value) (d:Int) (hd:d<0∨256≤d) (w:World):Calls Tryz.prog 133 #[.agg K,.int .i64 d] w fun e w'=>e=.returned (.int .i64 (-1))∧Ch (fun _=>False) w w':=by
 by_cases h0:d<0
 · clear hd
   go_enter Tryz.func133,Tryz.ntmps133;go_wp2;go_ret;exact⟨rfl,(Ch.refl _ _).alloc _⟩
 have h1:256≤d:=by omega
 have h2:0≤d:=by omega
 clear hd h0;go_enter Tryz.func133,Tryz.ntmps133;go_wp2;go_ret;exact⟨rfl,(Ch.refl _ _).alloc _⟩
theorem WA (k:List UInt8) (hk:k.length=32) (d:Nat) (hd:d<256) (w:World):Calls Tryz.prog 133 #[.agg (AS k),.int .i64 (d:Int)] w fun e w'=>e=.returned (.int .i64 (Ao k d:Nat))∧Ch (fun _=>False) w w':=by
 have hx:=Dd (l:=k) (i:=d / 8) (by omega);have hkb:Ao k d=Ck (k.getD (d / 8) 0) (d % 8):=rfl;generalize k.getD (d / 8) 0=x at hx hkb;obtain⟨K,hK⟩:∃K,K=AS k:=⟨_,rfl⟩
 rw[←hK] at hx ⊢;have hm:=Qp x (d % 8) (by omega);have ha:=u8_and_nat x.toNat (mask (d % 8)) x.toNat_lt (by unfold mask;have:128 / 2 ^ (d % 8)≤128:=Nat.div_le_self _ _;omega);have h0:(0:Int)≤(d:Int):=by omega
 have h1:(d:Int)<256:=by omega
 have h2:¬(256:Int)≤(d:Int):=by omega
 have n1:(0:Int)≤(d:Int) / 8:=by omega
 have n2:(d:Int) / 8<32:=by omega
 have n3:((d:Int) / 8).toNat=d / 8:=by omega
 have hMK:=Lib.hid (UO d hd);have c0:(w.alloc (.cells K 47)).cell? ⟨w.heap.size,d / 8,none⟩=some (bv x):=AH (heap_alloc_new _ _) hx;rcases Ke x (d % 8) with hb|hb
 · have hz:=hm.2 hb
   rw[hz] at ha;have hr:Ao k d=0:=by rw[hkb,hb]
   have HR:=Lib.hid hr;clear hr hb hz hm hkb hx hK;generalize mask (d % 8)=m at ha hMK;go_enter Tryz.func133,Tryz.ntmps133;go_wp2;go_quiet ((go_at_call 207;exact Calls.quiet_of_same (hMK.out _)));go_wp2;go_ret;exact⟨by rw[HR.out];rfl,((Ch.refl _ _).alloc _).drewN _⟩
 have hz:x.toNat &&& mask (d % 8)≠0:=fun h=>by have:=hm.1 h;omega
 have hr:Ao k d=1:=by rw[hkb,hb]
 have HR:=Lib.hid hr;obtain⟨y,hy⟩:∃y,y=x.toNat &&& mask (d % 8):=⟨_,rfl⟩
 rw[←hy] at ha hz;have hyb:((y:Int) != 0)=true:=by simp;omega
 have hyb':((y:Int) == 0)=false:=by simp;omega
 clear hr hb hz hm hkb hx hK hy;generalize mask (d % 8)=m at ha hMK;go_enter Tryz.func133,Tryz.ntmps133;go_wp2;go_quiet ((go_at_call 207;exact Calls.quiet_of_same (hMK.out _)));go_wp2;go_ret;exact⟨by rw[HR.out];rfl,((Ch.refl _ _).alloc _).drewN _⟩
theorem Iy (k:List UInt8) (hk:k.length=32) (d:Int) (w:World):Calls Tryz.prog 133 #[.agg (AS k),.int .i64 d] w fun e w'=>e=.returned (.int .i64 (bit k d))∧Ch (fun _=>False) w w':=by
 by_cases h:0≤d∧d<256
 · obtain⟨n,rfl⟩:=Int.eq_ofNat_of_zero_le h.1
   rw[Da (by omega)];exact WA k hk n (by omega) w
 have:bit k d = -1:=by unfold bit;rw[if_neg h]
 rw[this];exact U6 _ d (by omega) w
theorem IH (t:TypeId) (ht:Tryz.prog.underlying t=some (.array 32 5)) (a b:List UInt8) (ha:a.length=32) (hb:b.length=32) (w:World) :
 (Go.binOp BinOp.eql t (.agg (AS a)) (.agg (AS b))).run Tryz.prog w=.ok (.bool (decide (a=b))) w:=by
 obtain⟨i,hi⟩:∃i,Tryz.prog.info? 5=some i:=Option.isSome_iff_exists.1 (by kernel_rfl);rw[run_eql_struct,Fo w t 5 32 .u8 i ht hi (by kernel_rfl) (by kernel_rfl) Tryz.underlying5 9998 a b ha hb];rfl
theorem Hy (t:TypeId) (ht:Tryz.prog.underlying t=some (.array 32 5)) (a b:List UInt8) (ha:a.length=32) (hb:b.length=32) (w:World) :
 (Go.binOp BinOp.neq t (.agg (AS a)) (.agg (AS b))).run Tryz.prog w=.ok (.bool (!decide (a=b))) w:=by
 obtain⟨i,hi⟩:∃i,Tryz.prog.info? 5=some i:=Option.isSome_iff_exists.1 (by kernel_rfl);rw[run_neq_struct,Fo w t 5 32 .u8 i ht hi (by kernel_rfl) (by kernel_rfl) Tryz.underlying5 9998 a b ha hb];rfl
theorem Ab:(Tryz.prog.info? 47).map (·.size)=some 32:=by kernel_rfl
theorem Ft:(Tryz.prog.info? 47).bind (·.zero)=some (.agg (AS (List.replicate 32 0))):=by kernel_rfl
theorem Iq {P:Program} {w:World} {ops:Array Oper} {rest:List Oper} {o:Oper} {a:Act} {Q:Exit→Act→World→Prop} (hgd:o.guard=none) (t:TypeId) (x y:Operand) (ho:o.op=.index t x y) (ht:P.underlying t=some .string)
 (s:ByteArray) (hx:a.eval x=.string s) (i:Nat) (k:IntKind) (hy:a.eval y=.int k (i:Int)) (c:UInt8) (hc:s.data[i]?=some c)
 (h:wpList P ops Q rest (a.put o.dst (bv c)) w):wpList P ops Q (o::rest) a w :=
 wpList_plain hgd fun _ hK=>by
  have hi:i<s.size:=(Array.getElem?_eq_some_iff.1 hc).1;unfold Oper.wp execOp;simp only[ho,hx,hy];rw[Sem.run_bind,run_index_string w t s k (i:Int) ht,dif_pos (by omega)];have he:s[(i:Int).toNat]'(by omega)=c:=(Array.getElem?_eq_some_iff.1 hc).2;simp only[Result.andThen_ok,he];exact hK _ _ h
theorem T2 (s:ByteArray) (h:(List.range 256).all (fun i=>s.data[i]? == some (UInt8.ofNat (8-lead (UInt8.ofNat i))))=true) (x:UInt8):s.data[x.toNat]?=some (UInt8.ofNat (8-lead x)):=by
 have:=List.all_eq_true.1 h x.toNat (List.mem_range.2 x.toNat_lt);simp at this;simpa using this
theorem Me (x:UInt8):lead x≤8:=by unfold lead;split<;>omega
theorem Uc (x:UInt8) (w:World):Calls Tryz.prog 249 #[bv x] w fun e w'=>e=.returned (.int .i64 (8-lead x:Nat))∧w=w':=by
 have hl:=Me x;have h8:(UInt8.ofNat (8-lead x)).toNat=8-lead x:=by rw[UInt8.toNat_ofNat'];omega
 have H8:=Lib.hid h8;clear h8;go_enter Tryz.func249,Tryz.ntmps249
 go_wp2_with (first
  | ((with_reducible show zOq (.index 9 _ _));go_must (refine Iq rfl 9 _ _ rfl Tryz.underlying9 _ rfl x.toNat .u8 rfl _ (T2 _ (by kernel_rfl) x) ?_)))
 go_ret;exact⟨congrArg (fun z=>Ending.returned (.int .i64 z)) (by omega),rfl⟩
theorem SZ (x:UInt8) (w:World):Calls Tryz.prog 204 #[bv x] w fun e w'=>e=.returned (.int .i64 (lead x:Nat))∧w=w':=by
 have hl:=Me x;go_enter Tryz.func204,Tryz.ntmps204;go_wp2_with fail;refine(Uc x _).mono ?_;rintro e w1 ⟨rfl,rfl⟩;go_wp2;go_ret;exact⟨congrArg (fun z=>Ending.returned (.int .i64 z)) (by omega),rfl⟩
theorem NM (x y:UInt8):bits .xor .u8 (x.toNat:Int) (y.toNat:Int)=((x ^^^ y).toNat:Int):=by
 rw[u8_xor_nat _ _ x.toNat_lt y.toNat_lt,UInt8.toNat_xor]
theorem xor_zero (x y:UInt8):(x ^^^ y).toNat=0↔x=y:=by
 constructor
 · intro h
   have h0:x ^^^ y=0:=UInt8.toNat_inj.1 h;exact UInt8.xor_eq_zero_iff.1 h0
 rintro rfl;simp
theorem CX (a b:List UInt8) (ha:a.length=32) (hb:b.length=32) (w:World) :
 Calls Tryz.prog 128 #[.agg (AS a),.agg (AS b)] w fun e w'=>e=.returned (.int .i64 (common a b:Nat))∧Ch (fun _=>False) w w':=by
 have heq:=IH 47 Tryz.underlying47 a b ha hb;obtain⟨A,hA⟩:∃A,A=AS a:=⟨_,rfl⟩
 obtain⟨B,hB⟩:∃B,B=AS b:=⟨_,rfl⟩
 have hAs:A.size=32:=by rw[hA,AU,ha]
 have hBs:B.size=32:=by rw[hB,AU,hb]
 rw[←hA, ←hB] at heq ⊢;have g1:((w.alloc (.cells A 47)).alloc (.cells B 47)).heap[w.heap.size]?=some (.cells A 47 (0,0)):=AQ (heap_alloc_new _ _) _
 have g2:((w.alloc (.cells A 47)).alloc (.cells B 47)).heap[w.heap.size+1]?=some (.cells B 47 (0,0)):=by
  have:=heap_alloc_new (w.alloc (.cells A 47)) (.cells B 47);simpa using this
 have HA:=(hIq hA hAs)
 have HB:=(hIq hB hBs)
 have G1:=Lib.hid g1;have G2:=Lib.hid g2;have HLA:=(hIq ha hb)
 clear hA hB hAs hBs g1 g2 ha hb;by_cases hab:a=b
 · have hc:common a b=256:=by rw[←hab,D6,HLA.out.1]
   have hd:∀w0,(Go.binOp BinOp.eql 47 (.agg A) (.agg B)).run Tryz.prog w0=.ok (.bool true) w0:=fun w0=>by rw[heq w0,decide_eq_true hab]
   have HC:=Lib.hid hc;clear hc hab heq;go_enter Tryz.func128,Tryz.ntmps128
   go_wp2_with (first
    | ((with_reducible show zOq (.load 47 _));refine AJ rfl 47 _ rfl w.heap.size 0 rfl G1.out Tryz.underlying47 rfl Ab (by rw[HA.out.2];omega) A (by simp[←HA.out.2]) ?_)
    | ((with_reducible show zOq (.load 47 _));refine AJ rfl 47 _ rfl (w.heap.size+1) 0 rfl G2.out Tryz.underlying47 rfl Ab (by rw[HB.out.2];omega) B (by simp[←HB.out.2]) ?_))
   go_ret;exact⟨by rw[HC.out];rfl,((Ch.refl _ _).alloc _).alloc _⟩
 have hd:∀w0,(Go.binOp BinOp.eql 47 (.agg A) (.agg B)).run Tryz.prog w0=.ok (.bool false) w0:=fun w0=>by rw[heq w0,decide_eq_false hab]
 have HAB:=Lib.hid hab;clear hab heq;go_enter Tryz.func128,Tryz.ntmps128
 go_wp2_with (first
  | ((with_reducible show zOq (.load 47 _));refine AJ rfl 47 _ rfl w.heap.size 0 rfl G1.out Tryz.underlying47 rfl Ab (by rw[HA.out.2];omega) A (by simp[←HA.out.2]) ?_)
  | ((with_reducible show zOq (.load 47 _));refine AJ rfl 47 _ rfl (w.heap.size+1) 0 rfl G2.out Tryz.underlying47 rfl Ab (by rw[HB.out.2];omega) B (by simp[←HB.out.2]) ?_))
 clear hd;go_loopg [10] 32 (fun g s10 wr=>∃i:Nat,i≤32∧g=32-i∧s10=.int .i64 i∧a.take i=b.take i∧wr.heap[w.heap.size]?=some (.cells A 47 (0,0))∧wr.heap[w.heap.size+1]?=some (.cells B 47 (0,0))∧Ch (fun _=>False) w wr)
 case atStart=>exact⟨0,Nat.zero_le _,rfl,rfl,rfl,G1.out,G2.out,((Ch.refl _ _).alloc _).alloc _⟩
 obtain⟨i,hi,rfl,rfl,htk,h1,h2,hch⟩:=hrel;by_cases hil:i<32
 · have c1:=AH h1 (show A[i]?=some (bv (a.getD i 0)) by rw[HA.out.1];exact Dd (by rw[HLA.out.1];exact hil))
   have c2:=AH h2 (show B[i]?=some (bv (b.getD i 0)) by rw[HB.out.1];exact Dd (by rw[HLA.out.2];exact hil));have ea:a[i]?=some (a.getD i 0):=by simp[show i<a.length by rw[HLA.out.1];exact hil]
   have eb:b[i]?=some (b.getD i 0):=by simp[show i<b.length by rw[HLA.out.2];exact hil]
   generalize a.getD i 0=x at c1 ea;generalize b.getD i 0=y at c2 eb;have hx:=NM x y;have hx0:=xor_zero x y;have hi1:(i:Int)<32:=by omega
   have hi2:(i:Int)≤31:=by omega
   have hi3:i≤31:=by omega
   by_cases hxy:x=y
   · have hz:((x ^^^ y).toNat:Int)=0:=by rw[hx0.2 hxy];rfl
     rw[hz] at hx;have HT:=Lib.hid (show a.take (i+1)=b.take (i+1) by rw[List.take_add_one,List.take_add_one,htk,ea,eb,hxy]);have H1:=Lib.hid h1;have H2:=Lib.hid h2;have HC:=Lib.hid hch;clear htk ea eb hx0 hxy hz h1 h2 hch;go_wp2;go_quiet (fail);go_wp2;go_roundg (32-(i+1))
     case measure=>omega
     exact⟨i+1,by omega,rfl,by go_num,HT.out,H1.out,H2.out,HC.out.drewN _⟩
   have hcm:=Li a b i x y htk ea eb hxy;have hll:=Me (x ^^^ y);have hnz:(x ^^^ y).toNat≠0:=fun h=>hxy (hx0.1 h)
   generalize x ^^^ y=z at hx hcm hnz hll;have hzb:((z.toNat:Int) != 0)=true:=by simp;omega
   have hzb':((z.toNat:Int) == 0)=false:=by simp;omega
   have HCM:=Lib.hid hcm;have HC:=Lib.hid hch;clear htk ea eb hx0 hxy hcm hnz h1 h2 hch;go_wp2;go_quiet (fail);go_wp2_with fail;refine(SZ z _).mono ?_;rintro e w1 ⟨rfl,rfl⟩;go_wp2;go_ret;exact⟨by rw[HCM.out];rfl,HC.out.drewN _⟩
 have h32:i=32:=by omega
 rw[h32,List.take_of_length_le (by rw[HLA.out.1];exact Nat.le_refl _),List.take_of_length_le (by rw[HLA.out.2];exact Nat.le_refl _)] at htk;exact absurd htk HAB.out
def DH (k:List UInt8) (d:Int) (i:Nat):List UInt8:=(first k d).take i++k.drop i
theorem Rp (k:List UInt8) (d:Int) (i:Nat) (x:UInt8) (h:k[i]?=some x):(DH k d i)[i]?=some x:=by
 have hi:=(List.getElem?_eq_some_iff.1 h).1;have hl:((first k d).take i).length=i:=by simp[CN];omega
 rw[DH,List.getElem?_append_right (by omega),hl,Nat.sub_self,List.getElem?_drop];exact h
theorem Qz (k:List UInt8) (d:Int) (i:Nat) (x:UInt8) (h:k[i]?=some x):DH k d (i+1)=(DH k d i).set i (kept x (d-8*i)):=by
 have hi:=(List.getElem?_eq_some_iff.1 h).1;have hl:((first k d).take i).length=i:=by simp[CN];omega
 have hf:=Ex d 0 k i x h;unfold DH;rw[List.set_append_right _ _ (by omega),hl,Nat.sub_self,List.take_add_one];rw[show(first k d)[i]?=some (kept x (d-8*i)) by rw[first,hf];congr 2;omega];rw[List.drop_eq_getElem_cons hi,List.set_cons_zero,Option.toList_some,List.append_assoc,List.singleton_append]
theorem Qe (k:List UInt8) (d:Int):DH k d k.length=first k d:=by
 rw[DH,List.take_of_length_le (by rw[CN];exact Nat.le_refl _),List.drop_length,List.append_nil]
theorem Bv (l:List UInt8) (i:Nat) (x:UInt8):(AS l).setIfInBounds i (bv x)=AS (l.set i x):=by
 apply Array.ext';simp[AS,List.map_set]
theorem Ed:∀(x:Fin 256) (r:Fin 7),bits .or .u8 (bits .andNot .u8 (x.val:Int) ((255 / 2 ^ (r.val+1):Nat):Int)) (bits .and .u8 0 ((255 / 2 ^ (r.val+1):Nat):Int))=((x.val / 2 ^ (8-(r.val+1))*2 ^ (8-(r.val+1)):Nat):Int):=by decide +kernel
theorem VM (x:UInt8):bits .or .u8 (bits .andNot .u8 (x.toNat:Int) (127:Int)) (bits .and .u8 0 (127:Int))=((kept x 1).toNat:Int):=by
 have h:=Ed ⟨x.toNat,x.toNat_lt⟩ ⟨0,by omega⟩
 have e:(kept x 1).toNat=x.toNat / 2 ^ (8-1)*2 ^ (8-1):=by
  have hx:=x.toNat_lt;have:x.toNat / 2 ^ (8-1)*2 ^ (8-1)≤x.toNat:=Nat.div_mul_le_self _ _
  show(UInt8.ofNat (x.toNat / 2 ^ (8-1)*2 ^ (8-1))).toNat=_
  rw[UInt8.toNat_ofNat'];omega
 rw[e];exact h
theorem VQ (x:UInt8):bits .or .u8 (bits .andNot .u8 (x.toNat:Int) (63:Int)) (bits .and .u8 0 (63:Int))=((kept x 2).toNat:Int):=by
 have h:=Ed ⟨x.toNat,x.toNat_lt⟩ ⟨1,by omega⟩
 have e:(kept x 2).toNat=x.toNat / 2 ^ (8-2)*2 ^ (8-2):=by
  have hx:=x.toNat_lt;have:x.toNat / 2 ^ (8-2)*2 ^ (8-2)≤x.toNat:=Nat.div_mul_le_self _ _
  show(UInt8.ofNat (x.toNat / 2 ^ (8-2)*2 ^ (8-2))).toNat=_
  rw[UInt8.toNat_ofNat'];omega
 rw[e];exact h
theorem VJ (x:UInt8):bits .or .u8 (bits .andNot .u8 (x.toNat:Int) (31:Int)) (bits .and .u8 0 (31:Int))=((kept x 3).toNat:Int):=by
 have h:=Ed ⟨x.toNat,x.toNat_lt⟩ ⟨2,by omega⟩
 have e:(kept x 3).toNat=x.toNat / 2 ^ (8-3)*2 ^ (8-3):=by
  have hx:=x.toNat_lt;have:x.toNat / 2 ^ (8-3)*2 ^ (8-3)≤x.toNat:=Nat.div_mul_le_self _ _
  show(UInt8.ofNat (x.toNat / 2 ^ (8-3)*2 ^ (8-3))).toNat=_
  rw[UInt8.toNat_ofNat'];omega
 rw[e];exact h
theorem VP (x:UInt8):bits .or .u8 (bits .andNot .u8 (x.toNat:Int) (15:Int)) (bits .and .u8 0 (15:Int))=((kept x 4).toNat:Int):=by
 have h:=Ed ⟨x.toNat,x.toNat_lt⟩ ⟨3,by omega⟩
 have e:(kept x 4).toNat=x.toNat / 2 ^ (8-4)*2 ^ (8-4):=by
  have hx:=x.toNat_lt;have:x.toNat / 2 ^ (8-4)*2 ^ (8-4)≤x.toNat:=Nat.div_mul_le_self _ _
  show(UInt8.ofNat (x.toNat / 2 ^ (8-4)*2 ^ (8-4))).toNat=_
  rw[UInt8.toNat_ofNat'];omega
 rw[e];exact h
theorem VK (x:UInt8):bits .or .u8 (bits .andNot .u8 (x.toNat:Int) (7:Int)) (bits .and .u8 0 (7:Int))=((kept x 5).toNat:Int):=by
 have h:=Ed ⟨x.toNat,x.toNat_lt⟩ ⟨4,by omega⟩
 have e:(kept x 5).toNat=x.toNat / 2 ^ (8-5)*2 ^ (8-5):=by
  have hx:=x.toNat_lt;have:x.toNat / 2 ^ (8-5)*2 ^ (8-5)≤x.toNat:=Nat.div_mul_le_self _ _
  show(UInt8.ofNat (x.toNat / 2 ^ (8-5)*2 ^ (8-5))).toNat=_
  rw[UInt8.toNat_ofNat'];omega
 rw[e];exact h
theorem VY (x:UInt8):bits .or .u8 (bits .andNot .u8 (x.toNat:Int) (3:Int)) (bits .and .u8 0 (3:Int))=((kept x 6).toNat:Int):=by
 have h:=Ed ⟨x.toNat,x.toNat_lt⟩ ⟨5,by omega⟩
 have e:(kept x 6).toNat=x.toNat / 2 ^ (8-6)*2 ^ (8-6):=by
  have hx:=x.toNat_lt;have:x.toNat / 2 ^ (8-6)*2 ^ (8-6)≤x.toNat:=Nat.div_mul_le_self _ _
  show(UInt8.ofNat (x.toNat / 2 ^ (8-6)*2 ^ (8-6))).toNat=_
  rw[UInt8.toNat_ofNat'];omega
 rw[e];exact h
theorem VR (x:UInt8):bits .or .u8 (bits .andNot .u8 (x.toNat:Int) (1:Int)) (bits .and .u8 0 (1:Int))=((kept x 7).toNat:Int):=by
 have h:=Ed ⟨x.toNat,x.toNat_lt⟩ ⟨6,by omega⟩
 have e:(kept x 7).toNat=x.toNat / 2 ^ (8-7)*2 ^ (8-7):=by
  have hx:=x.toNat_lt;have:x.toNat / 2 ^ (8-7)*2 ^ (8-7)≤x.toNat:=Nat.div_mul_le_self _ _
  show(UInt8.ofNat (x.toNat / 2 ^ (8-7)*2 ^ (8-7))).toNat=_
  rw[UInt8.toNat_ofNat'];omega
 rw[e];exact h
theorem Vo (x:UInt8):bits .or .u8 (bits .andNot .u8 (x.toNat:Int) (127:Int)) (0:Int)=((kept x 1).toNat:Int):=by
 have e:bits .and .u8 0 (127:Int)=0:=by decide +kernel
 have h:=VM x;rw[e] at h;exact h
theorem WG (x:UInt8):bits .or .u8 (bits .andNot .u8 (x.toNat:Int) (63:Int)) (0:Int)=((kept x 2).toNat:Int):=by
 have e:bits .and .u8 0 (63:Int)=0:=by decide +kernel
 have h:=VQ x;rw[e] at h;exact h
theorem Vb (x:UInt8):bits .or .u8 (bits .andNot .u8 (x.toNat:Int) (31:Int)) (0:Int)=((kept x 3).toNat:Int):=by
 have e:bits .and .u8 0 (31:Int)=0:=by decide +kernel
 have h:=VJ x;rw[e] at h;exact h
theorem WI (x:UInt8):bits .or .u8 (bits .andNot .u8 (x.toNat:Int) (15:Int)) (0:Int)=((kept x 4).toNat:Int):=by
 have e:bits .and .u8 0 (15:Int)=0:=by decide +kernel
 have h:=VP x;rw[e] at h;exact h
theorem Vy (x:UInt8):bits .or .u8 (bits .andNot .u8 (x.toNat:Int) (7:Int)) (0:Int)=((kept x 5).toNat:Int):=by
 have e:bits .and .u8 0 (7:Int)=0:=by decide +kernel
 have h:=VK x;rw[e] at h;exact h
theorem Vp (x:UInt8):bits .or .u8 (bits .andNot .u8 (x.toNat:Int) (3:Int)) (0:Int)=((kept x 6).toNat:Int):=by
 have e:bits .and .u8 0 (3:Int)=0:=by decide +kernel
 have h:=VY x;rw[e] at h;exact h
theorem Vc (x:UInt8):bits .or .u8 (bits .andNot .u8 (x.toNat:Int) (1:Int)) (0:Int)=((kept x 7).toNat:Int):=by
 have e:bits .and .u8 0 (1:Int)=0:=by decide +kernel
 have h:=VR x;rw[e] at h;exact h
theorem QE (k:List UInt8) (hk:k.length=32) (d:Int) (hd:0≤d∧d≤256) (w:World) :
 Calls Tryz.prog 234 #[.agg (AS k),.int .i64 d,.int .u8 0] w fun e w'=>e=.returned (.tuple #[.agg (AS (first k d)),.int .i64 0])∧Ch (fun _=>False) w w':=by
 obtain⟨Z,hZ⟩:∃Z,Z=AS (List.replicate 32 0):=⟨_,rfl⟩
 have hzh:=Ft;rw[←hZ] at hzh;have hZs:Z.size=32:=by rw[hZ];rfl
 obtain⟨K,hK⟩:∃K,K=AS k:=⟨_,rfl⟩
 rw[←hK];have h0:=hd.1;have h1:=hd.2;have HZ:=(hIq hzh hZs)
 have HK:=Lib.hid hK;have HKL:=Lib.hid hk;clear hZ hzh hZs hK hk hd;go_enter Tryz.func234,Tryz.ntmps234;go_wp2_with (first|((with_reducible show zOq (.alloc 47));refine AO rfl 47 rfl (.agg Z) HZ.out.1 ?_;dsimp only[Value.cells];try simp only[World.size_alloc]));go_loopg [18] 32 (fun g s18 wr=>∃i:Nat,i≤32∧g=32-i∧s18=.int .i64 i∧wr.heap[w.heap.size]?=some (.cells (AS (DH k d i)) 47 (0,0))∧wr.heap[w.heap.size+1]?=some (.cells Z 47 (0,0))∧Ch (fun _=>False) w wr)
 case atStart =>
  refine⟨0,Nat.zero_le _,rfl,rfl,?_,?_,((Ch.refl _ _).alloc _).alloc _⟩
  · rw[show DH k d 0=k by simp[DH], ←HK.out]
    exact AQ (heap_alloc_new _ _) _
  have:=heap_alloc_new (w.alloc (.cells K 47)) (.cells Z 47);simpa using this
 obtain⟨i,hi,rfl,rfl,hr,hz,hch⟩:=hrel;by_cases hil:i<32
 · have ea:k[i]?=some (k.getD i 0):=by simp[show i<k.length by rw[HKL.out];exact hil]
   generalize k.getD i 0=x at ea;have hux:=Rp k d i x ea;have hus:=Qz k d i x ea;have c1:=AH hr (EV hux);have f1:=Ai hr i;have l1:=Ad hr;have hi1:(i:Int)<32:=by omega
   have hi2:(i:Int)≤31:=by omega
   have hi3:i≤31:=by omega
   have wr8:IntKind.i64.wrap (8*(i:Int))=8*(i:Int):=IntWalk.i64_in _ (by omega);by_cases hc1:d-8*(i:Int)≤0
   · have hk0:kept x (d-8*i)=0:=by unfold kept;rw[if_pos hc1]
     rw[hk0] at hus;have HU:=Lib.hid hus;have HR:=Lib.hid hr;have HZ2:=Lib.hid hz;have HC:=Lib.hid hch;clear hus hr hz hch ea hux hk0;go_wp2;go_roundg (32-(i+1))
     case measure=>omega
     refine⟨i+1,by omega,rfl,by go_num,?_,Ak HZ2.out (by simp) _,HC.out.setCell (p:=⟨w.heap.size,i,none⟩) (.inr (Nat.le_refl _)) _⟩;have:=AV HR.out i (bv 0);rw[Bv, ←HU.out] at this;exact this
   by_cases hc2:d-8*(i:Int)<8
   · have hr7:d-8*(i:Int)=1∨d-8*(i:Int)=2∨d-8*(i:Int)=3∨d-8*(i:Int)=4∨d-8*(i:Int)=5∨d-8*(i:Int)=6∨d-8*(i:Int)=7:=by omega
     have HU:=Lib.hid hus;have HR:=Lib.hid hr;have HZ2:=Lib.hid hz;have HC:=Lib.hid hch;clear hus hr hz hch ea hux hc1 hc2;rcases hr7 with h7|h7|h7|h7|h7|h7|h7
     · have HH7:=Lib.hid h7
       have hv:=VM x;have hv0:=Vo x;generalize hy:kept x 1=y at hv hv0;have HY:=Lib.hid hy;clear hy;go_wp2;go_roundg (32-(i+1))
       case measure=>omega
       refine⟨i+1,by omega,rfl,by go_num,?_,Ak HZ2.out (by simp) _,HC.out.setCell (p:=⟨w.heap.size,i,none⟩) (.inr (Nat.le_refl _)) _⟩;have:=AV HR.out i (bv y);have e:DH k d (i+1)=(DH k d i).set i y:=by rw[HU.out,HH7.out,HY.out]
       rw[Bv, ←e] at this;exact this
     · have HH7:=Lib.hid h7
       have hv:=VQ x;have hv0:=WG x;generalize hy:kept x 2=y at hv hv0;have HY:=Lib.hid hy;clear hy;go_wp2;go_roundg (32-(i+1))
       case measure=>omega
       refine⟨i+1,by omega,rfl,by go_num,?_,Ak HZ2.out (by simp) _,HC.out.setCell (p:=⟨w.heap.size,i,none⟩) (.inr (Nat.le_refl _)) _⟩;have:=AV HR.out i (bv y);have e:DH k d (i+1)=(DH k d i).set i y:=by rw[HU.out,HH7.out,HY.out]
       rw[Bv, ←e] at this;exact this
     · have HH7:=Lib.hid h7
       have hv:=VJ x;have hv0:=Vb x;generalize hy:kept x 3=y at hv hv0;have HY:=Lib.hid hy;clear hy;go_wp2;go_roundg (32-(i+1))
       case measure=>omega
       refine⟨i+1,by omega,rfl,by go_num,?_,Ak HZ2.out (by simp) _,HC.out.setCell (p:=⟨w.heap.size,i,none⟩) (.inr (Nat.le_refl _)) _⟩;have:=AV HR.out i (bv y);have e:DH k d (i+1)=(DH k d i).set i y:=by rw[HU.out,HH7.out,HY.out]
       rw[Bv, ←e] at this;exact this
     · have HH7:=Lib.hid h7
       have hv:=VP x;have hv0:=WI x;generalize hy:kept x 4=y at hv hv0;have HY:=Lib.hid hy;clear hy;go_wp2;go_roundg (32-(i+1))
       case measure=>omega
       refine⟨i+1,by omega,rfl,by go_num,?_,Ak HZ2.out (by simp) _,HC.out.setCell (p:=⟨w.heap.size,i,none⟩) (.inr (Nat.le_refl _)) _⟩;have:=AV HR.out i (bv y);have e:DH k d (i+1)=(DH k d i).set i y:=by rw[HU.out,HH7.out,HY.out]
       rw[Bv, ←e] at this;exact this
     · have HH7:=Lib.hid h7
       have hv:=VK x;have hv0:=Vy x;generalize hy:kept x 5=y at hv hv0;have HY:=Lib.hid hy;clear hy;go_wp2;go_roundg (32-(i+1))
       case measure=>omega
       refine⟨i+1,by omega,rfl,by go_num,?_,Ak HZ2.out (by simp) _,HC.out.setCell (p:=⟨w.heap.size,i,none⟩) (.inr (Nat.le_refl _)) _⟩;have:=AV HR.out i (bv y);have e:DH k d (i+1)=(DH k d i).set i y:=by rw[HU.out,HH7.out,HY.out]
       rw[Bv, ←e] at this;exact this
     · have HH7:=Lib.hid h7
       have hv:=VY x;have hv0:=Vp x;generalize hy:kept x 6=y at hv hv0;have HY:=Lib.hid hy;clear hy;go_wp2;go_roundg (32-(i+1))
       case measure=>omega
       refine⟨i+1,by omega,rfl,by go_num,?_,Ak HZ2.out (by simp) _,HC.out.setCell (p:=⟨w.heap.size,i,none⟩) (.inr (Nat.le_refl _)) _⟩;have:=AV HR.out i (bv y);have e:DH k d (i+1)=(DH k d i).set i y:=by rw[HU.out,HH7.out,HY.out]
       rw[Bv, ←e] at this;exact this
     have HH7:=Lib.hid h7;have hv:=VR x;have hv0:=Vc x;generalize hy:kept x 7=y at hv hv0;have HY:=Lib.hid hy;clear hy;go_wp2;go_roundg (32-(i+1))
     case measure=>omega
     refine⟨i+1,by omega,rfl,by go_num,?_,Ak HZ2.out (by simp) _,HC.out.setCell (p:=⟨w.heap.size,i,none⟩) (.inr (Nat.le_refl _)) _⟩;have:=AV HR.out i (bv y);have e:DH k d (i+1)=(DH k d i).set i y:=by rw[HU.out,HH7.out,HY.out]
     rw[Bv, ←e] at this;exact this
   have hk0:kept x (d-8*i)=x:=by unfold kept;rw[if_neg hc1,if_neg hc2]
   have hse:(DH k d i).set i x=DH k d i:=by
    obtain⟨hlt,he⟩:=List.getElem?_eq_some_iff.1 hux;rw[←he,List.set_getElem_self]
   rw[hk0,hse] at hus;have HU:=Lib.hid hus;have HR:=Lib.hid hr;have HZ2:=Lib.hid hz;have HC:=Lib.hid hch;have hc3:0<d-8*(i:Int):=by omega
   have hc4:8≤d-8*(i:Int):=by omega
   clear hus hr hz hch ea hux hk0 hse hc1 hc2;go_wp2;go_roundg (32-(i+1))
   case measure=>omega
   exact⟨i+1,by omega,rfl,by go_num,by rw[HU.out];exact HR.out,HZ2.out,HC.out⟩
 have h32:i=k.length:=by rw[HKL.out];omega
 have hd32:decide ((i:Int)<32)=false:=by rw[decide_eq_false_iff_not];have:=HKL.out;omega
 rw[h32,Qe] at hr;obtain⟨O,hO⟩:∃O,O=AS (first k d):=⟨_,rfl⟩
 have hos:O.size=32:=by rw[hO,AU,CN,HKL.out]
 have ho1:=BO (first k d);rw[←hO] at hr ho1;have HO:=(hIq hr (aIq hos ho1))
 have HO':=Lib.hid hO;have HZ2:=Lib.hid hz;have HC2:=Lib.hid hch;clear hr hos ho1 hO hz hch hil h32
 go_wp2_with (first
  | ((with_reducible show zOq (.load 47 _));refine AJ rfl 47 _ rfl w.heap.size 0 rfl HO.out.1 Tryz.underlying47 rfl Ab (by rw[HO.out.2.1];omega) O (by simp[←HO.out.2.1]) ?_)
  | ((with_reducible show zOq (.store 47 _ _));refine AI rfl 47 _ _ rfl (w.heap.size+1) 0 O rfl rfl HZ2.out (by rw[Ab,HO.out.2.1]) (by rw[HO.out.2.1,HZ.out.2];omega) HO.out.2.2 O (by rw[AT _ _ (by rw[Array.length_toList,Array.length_toList,HO.out.2.1,HZ.out.2])]) ?_))
 exact Al (p:=6) (u:=7) rfl rfl (AK HZ2.out _) Tryz.underlying47 rfl (by rw[Ab,HO.out.2.1]) rfl ⟨by rw[HO'.out];rfl,HC2.out.setRow (.inr (by omega)) _⟩
theorem Sr (k:List UInt8) (hk:k.length=32) (d:Int) (hd:0≤d∧d≤256) (w:World) :
 Calls Tryz.prog 251 #[.agg (AS k),.int .i64 d] w fun e w'=>e=.returned (.tuple #[.agg (AS (first k d)),.int .i64 0])∧Ch (fun _=>False) w w':=by
 have hcall:=QE k hk d hd;obtain⟨Z,hZ⟩:∃Z,Z=AS (List.replicate 32 0):=⟨_,rfl⟩
 have hzh:=Ft;rw[←hZ] at hzh;have hZs:Z.size=32:=by rw[hZ];rfl
 obtain⟨K,hK⟩:∃K,K=AS k:=⟨_,rfl⟩
 have hKs:K.size=32:=by rw[hK,AU,hk]
 obtain⟨O,hO⟩:∃O,O=AS (first k d):=⟨_,rfl⟩
 have hos:O.size=32:=by rw[hO,AU,CN,hk]
 have ho1:=BO (first k d);rw[←hK, ←hO] at hcall;rw[←hO] at ho1;rw[←hK];have HC:=Lib.hid hcall;have HZ:=(hIq hzh hZs)
 have HK:=Lib.hid hKs;have HO:=(hIq hO (aIq hos ho1))
 clear hcall hZ hzh hZs hK hKs hO hos ho1 hk hd;go_enter Tryz.func251,Tryz.ntmps251
 go_wp2_with (first
  | ((with_reducible show zOq (.alloc 47));refine AO rfl 47 rfl (.agg Z) HZ.out.1 ?_;dsimp only[Value.cells];try simp only[World.size_alloc])
  | ((with_reducible show zOq (.load 47 _));refine AJ rfl 47 _ rfl w.heap.size 0 rfl (AQ (heap_alloc_new _ _) _) Tryz.underlying47 rfl Ab (by rw[HK.out];omega) K (by simp[←HK.out]) ?_))
 refine(HC.out _).mono ?_;rintro e w4 ⟨rfl,hc4⟩
 have hz4:=hc4.row (show((w.alloc (.cells K 47)).alloc (.cells Z 47)).heap[w.heap.size+1]?=some (.cells Z 47 (0,0)) by
  have:=heap_alloc_new (w.alloc (.cells K 47)) (.cells Z 47);simpa using this) id
 have hw4:=(((Ch.refl (fun _=>False) w).alloc (.cells K 47)).alloc (.cells Z 47)).trans hc4 (fun _=>fEq);have Z4:=Lib.hid hz4;have W4:=Lib.hid hw4;clear hc4 hz4 hw4
 go_wp2_with (first
  | ((with_reducible show zOq (.store 47 _ _));refine AI rfl 47 _ _ rfl (w.heap.size+1) 0 O rfl rfl Z4.out (by rw[Ab,HO.out.2.1]) (by rw[HO.out.2.1,HZ.out.2];omega) HO.out.2.2 O (by rw[AT _ _ (by rw[Array.length_toList,Array.length_toList,HO.out.2.1,HZ.out.2])]) ?_))
 exact Al (p:=4) (u:=5) rfl rfl (AK Z4.out _) Tryz.underlying47 rfl (by rw[Ab,HO.out.2.1]) rfl ⟨by rw[HO.out.1];rfl,W4.out.setRow (.inr (by omega)) _⟩
end Go.Proofs.YtngbdbpofifimaaGreat.Path
