/- Laws of the layers below. -/
import Derived.Test.YtngbdbpofifimaaGreatQk12
import Derived.Test.YtngbdbpofifimaaGreatQk19
import Derived.Shelf.SlSortCmp.WholeK
import Derived.Shelf.SlSortCmp.NoneTotal
import Derived.Test.YtngbdbpofifimaaGreatChecked
import Derived.Laws.Externs
import Derived.Sort.Grow
import Derived.Maps.OwnOps
import Derived.Maps.OwnSet
import Derived.DeepKeys4
import Derived.WalkArith
import Derived.Lib.SliceRun
set_option maxHeartbeats 3200000
set_option maxRecDepth 100000
set_option linter.unusedVariables false
namespace Go.Proofs.YtngbdbpofifimaaGreat.Law9
open Go.RowKit Go.Proofs.YtngbdbpofifimaaGreat.ShaW Go.Proofs.YtngbdbpofifimaaGreat.Path Go.Proofs.YtngbdbpofifimaaGreat.Store
structure Wm where
 key:List UInt8
 gone:Bool
 vv:Value
 val:List UInt8
instance:Inhabited Wm:=⟨⟨[],false,.slice none 0 0,[]⟩⟩
def Wm.cells (x:Wm):Array Value:=(x.key.map bv ++ [.bool x.gone,x.vv]).toArray
def Wm.ent (x:Wm):List UInt8×List UInt8:=(x.key,x.val)
def Wm.wp (x:Wm):List UInt8×Option (List UInt8):=(x.key,if x.gone then none else some x.val)
structure Wm.Good (w:World) (x:Wm):Prop where
 key:x.key.length=32
 val:Bytes w x.vv x.val
 blk:x.val ≠ []→∀k,x.vv.ownBlock=some k→k<w.heap.size
theorem Wm.Good.Af {F:Nat→Prop} {w w':World} {x:Wm} (h:x.Good w) (hc:Ch F w w') (hF:∀k,F k→w.heap.size≤k):x.Good w' :=
 ⟨h.key,h.val.LM hc (fun h0 k hk hf=>by have:=h.blk h0 k hk;have:=hF k hf;omega),fun h0 k hk=>Nat.lt_of_lt_of_le (h.blk h0 k hk) hc.size⟩
section
variable {x : Wm} (h : x.key.length=32)
include h
theorem Wm.size:x.cells.size=34:=by simp[Wm.cells,h]
omit h in
theorem Wm.list:x.cells.toList=x.key.map bv ++ [.bool x.gone,x.vv]:=rfl
theorem Wm.BW:x.cells.extract 0 (0+32)=AK x.key:=by
 apply Array.ext';simp only[Array.toList_extract,List.extract,Wm.list,AK,List.drop_zero];rw[List.take_append_of_le_length (by simp[h]),List.take_of_length_le (by simp[h])]
theorem Wm.Jz:x.cells[32]?=some (.bool x.gone):=by
 rw[←Array.getElem?_toList,Wm.list,List.getElem?_append_right (by simp[h])];simp[h]
theorem Wm.Hx:x.cells[33]?=some x.vv:=by
 rw[←Array.getElem?_toList,Wm.list,List.getElem?_append_right (by simp[h])];simp[h]
theorem NZ {cur:Array Value} {o:Nat} (c3:cur.extract o (o+34)=x.cells):cur.extract o (o+32)=AK x.key∧cur[o+32]?=some (.bool x.gone)∧cur[o+33]?=some x.vv:=by
 have hs:=Wm.size h;have h':cur.extract o (o+x.cells.size)=x.cells:=by rw[hs];exact c3
 exact⟨RO h' (by rw[hs];omega) (Wm.BW h),OP h' (Wm.Jz h),OP h' (Wm.Hx h)⟩
end
theorem Wm.one {w:World} {x:Wm} (h:x.Good w):∀v∈x.cells.toList,v.oneCell'=true:=fun v hv=>by
 rw[Wm.list,List.mem_append,List.mem_map] at hv;rcases hv with⟨b,_,rfl⟩|hv
 · rfl
 obtain⟨ao,cap,e,_⟩:=h.val.form;simp at hv;rcases hv with rfl|rfl
 · rfl
 rw[e];rfl
structure CQ (w:World) (ao:Option Addr) (l:List Wm):Prop where
 good:∀x∈l,x.Good w
 row:EE 34 Wm.cells w ao l
section
variable {w w' : World} {ao : Option Addr} {l : List Wm}
theorem CQ.Af {F:Nat→Prop} (h:CQ w ao l) (hc:Ch F w w') (hF:∀k,F k→w.heap.size≤k):CQ w' ao l:=⟨fun x hx=>(h.good x hx).Af hc hF,h.row.Af hc hF⟩
theorem CQ.adds (h:CQ w ao l) (a:Adds w w'):CQ w' ao l:=h.Af a (fun _=>fEq)
theorem CQ.take (h:CQ w ao l) (n:Nat):CQ w ao (l.take n):=⟨fun x hx=>h.good x (List.mem_of_mem_take hx),h.row.take n⟩
theorem CQ.drop (h:CQ w ao l) (n cap:Nat) (hc:l.length≤cap):CQ w (Nh 34 ao cap n) (l.drop n):=⟨fun x hx=>h.good x (List.mem_of_mem_drop hx),h.row.drop n cap hc⟩
theorem CQ.nil (w:World) (ao:Option Addr):CQ w ao []:=⟨fun x hx=>(by cases hx),fun i x hi=>(by simp at hi)⟩
end
theorem WB:(Tryz.prog.info? (Tryz.prog.elem 132)).map (·.size)=some 34:=by kernel_rfl
theorem EV:(Tryz.prog.info? 134).map (·.size)=some 34:=by kernel_rfl
theorem J0:Tryz.prog.underlying 132=some (.slice (Tryz.prog.elem 132)):=by kernel_rfl
theorem Ol (w:World):(sizeOf (Tryz.prog.elem 132)).run Tryz.prog w=.ok 34 w:=by
 have hs:=WB;cases hq:Tryz.prog.info? (Tryz.prog.elem 132) with
 | none=>rw[hq] at hs;cases hs
 | some inf =>
  rw[hq] at hs;have hs':inf.size=34:=by simpa using hs
  simp[sizeOf,typeInfo,hq,hs']
theorem Nf (w:World) (ao:Option Addr) (len cap i:Nat) (hi:i≤len) :
 (Instr.sliceAt 132 (.slice ao len cap) (some (.int .i64 (i:Int))) none none).run Tryz.prog w=.ok (.slice (Nh 34 ao cap i) (len-i) (cap-i)) w:=by
 rw[run_sliceAt_slice w _ _ _ _ _ J0,run_slice_l w _ ao len cap J0 .i64 (i:Int) (by omega) (by omega)];simp only[Ol w,Result.andThen_ok,sliced,Int.toNat_natCast];rfl
theorem O4 (w:World) (ao:Option Addr) (len cap i:Nat) (hi:i≤cap) :
 (Instr.sliceAt 132 (.slice ao len cap) none (some (.int .i64 (i:Int))) none).run Tryz.prog w=.ok (.slice ao i cap) w:=by
 rw[run_sliceAt_slice w _ _ _ _ _ J0,run_slice_h w _ ao len cap J0 .i64 (i:Int) (by omega) (by omega)]
 have e:(Value.slice (if cap=0 then ao else ao.map (·.add (0*34))) (i-0) (cap-0))=.slice ao i cap:=by
  rw[Nat.zero_mul,Nat.sub_zero,Nat.sub_zero]
  congr 1
  split
  · rfl
  cases ao<;>rfl
 simp only[Ol w,Result.andThen_ok,sliced,Int.toNat_natCast,e]
end Go.Proofs.YtngbdbpofifimaaGreat.Law9
namespace Go.Proofs.YtngbdbpofifimaaGreat
open Go.Shelf
def UH:Go.Shelf.Ren:=⟨fun|6=>268|15=>253|14=>304|28=>285|29=>286|20=>332|21=>333|22=>334|23=>335|24=>336|25=>337|26=>338|27=>339|46=>346|47=>310|48=>311|49=>347|50=>348|57=>350|n=>n,fun|22=>56|24=>86|25=>357|3=>3|39=>216|0=>0|53=>332|55=>339|4=>4|46=>368|45=>367|50=>302|5=>5|9=>9|66=>387|70=>391|76=>408|77=>226|n=>n,fun|n=>n⟩
end Go.Proofs.YtngbdbpofifimaaGreat
namespace Go.Proofs.YtngbdbpofifimaaGreat.Path
open Go.RowKit Go.Sort
theorem I6 (a b:ByteArray) (w:World):Calls Tryz.prog 303 #[.string a,.string b] w fun e w'=>e=.returned (.int .i64 (Lib.compareBytes a.data.toList b.data.toList))∧w=w':=by
 go_enter Tryz.func303,Tryz.ntmps303;go_wp2;rw[run_callFunc_extern Tryz.func331 (by kernel_rfl) (by kernel_rfl) (by kernel_rfl) (e:=Extern.BytealgCompare.compare) (by kernel_rfl),Lib.run_compareString];simp only[Result.andThen];rw[Oper.upon_value];go_wp2;go_ret;exact⟨rfl,rfl⟩
theorem Lb (a b:ByteArray) (w:World):Calls Tryz.prog 266 #[.string a,.string b] w fun e w'=>e=.returned (.int .i64 (Lib.compareBytes a.data.toList b.data.toList))∧w=w':=by
 have h:=I6 a b w;generalize Lib.compareBytes a.data.toList b.data.toList=r at h ⊢;go_enter Tryz.func266,Tryz.ntmps266;go_wp2_with fail;refine h.mono ?_;rintro e w1 ⟨rfl,rfl⟩;go_wp2;go_ret;exact⟨rfl,rfl⟩
def Dh (x:List UInt8):List Int:=x.map fun b=>(b.toNat:Int)
theorem KO (x:List UInt8):(strOfNums (Dh x)).data.toList=x:=by
 rw[strOfNums_data];unfold Dh;rw[List.map_map]
 conv=>rhs;rw[←List.map_id x]
 refine List.map_congr_left fun b _=>?_
 simp
theorem Le {w:World} {g1 g2 c1 c2:Nat} {t1 t2:TypeId} {f1 f2:Nat×Nat} (x y:List UInt8) (hx:w.heap[g1]?=some (.cells (AK x) t1 f1)) (hy:w.heap[g2]?=some (.cells (AK y) t2 f2)) :
 Calls Tryz.prog 233 #[.slice (some ⟨g1,0,none⟩) x.length c1,.slice (some ⟨g2,0,none⟩) y.length c2] w fun e w'=>e=.returned (.int .i64 (Lib.compareBytes x y))∧w=w':=by
 have get:∀(z:List UInt8) (i:Nat),i<z.length→(AK z)[i]?=some (.int .u8 ((Dh z).getD i 0)):=fun z i hi=>by
  rw[EH hi];simp[Dh,bv,hi]
 have r1:(convert 29 9 (.slice (some ⟨g1,0,none⟩) x.length c1)).run Tryz.prog w=.ok (.string (strOfNums (Dh x))) w :=
  run_convert_bytes_arg w _ _ Tryz.underlying29 Tryz.underlying5 g1 0 x.length c1 (Dh x) (by simp[Dh]) (fun i hi=>by rw[Nat.zero_add];exact AE hx (get x i hi)) _ Tryz.underlying9
 have r2:(convert 29 9 (.slice (some ⟨g2,0,none⟩) y.length c2)).run Tryz.prog w=.ok (.string (strOfNums (Dh y))) w :=
  run_convert_bytes_arg w _ _ Tryz.underlying29 Tryz.underlying5 g2 0 y.length c2 (Dh y) (by simp[Dh]) (fun i hi=>by rw[Nat.zero_add];exact AE hy (get y i hi)) _ Tryz.underlying9
 have h:=Lb (strOfNums (Dh x)) (strOfNums (Dh y)) w;rw[KO,KO] at h;generalize Lib.compareBytes x y=r at h ⊢;generalize strOfNums (Dh x)=s1 at r1 h;generalize strOfNums (Dh y)=s2 at r2 h;clear get hx hy;go_enter Tryz.func233,Tryz.ntmps233;go_wp2_with fail;refine h.mono ?_;rintro e w1 ⟨rfl,rfl⟩;go_wp2;go_ret;exact⟨rfl,rfl⟩
theorem P2 (a b:List UInt8) (ha:a.length=32) (hb:b.length=32) (w:World) :
 Calls Tryz.prog 164 #[.agg (AK a),.agg (AK b)] w fun e w'=>e=.returned (.int .i64 (Lib.compareBytes a b))∧∃q os,w'=grow (w.drewN q) os:=by
 obtain⟨A,hA⟩:∃A,A=AK a:=⟨_,rfl⟩
 obtain⟨B,hB⟩:∃B,B=AK b:=⟨_,rfl⟩
 have g1:((w.alloc (.cells A 47)).alloc (.cells B 47)).drew.heap[w.heap.size]?=some (.cells A 47 (0,0)):=AS (AI (heap_alloc_new _ _) _)
 have g2:((w.alloc (.cells A 47)).alloc (.cells B 47)).drew.heap[w.heap.size+1]?=some (.cells B 47 (0,0)):=by
  have:=heap_alloc_new (w.alloc (.cells A 47)) (.cells B 47);exact AS (by simpa using this)
 have h:=Le (c1:=32) (c2:=32) a b (by rw[←hA];exact g1) (by rw[←hB];exact g2);rw[ha,hb] at h;rw[←hA, ←hB];have hs0:∀w0:World,(Instr.sliceAt 47 (.pointer (some ⟨w.heap.size,0,none⟩)) none none none).run Tryz.prog w0=.ok (.slice (some ⟨w.heap.size,0,none⟩) 32 32) w0:=fun w0=>Cn w0 47 32 (by kernel_rfl) (by kernel_rfl) (by kernel_rfl) _ _
 have hs1:∀w0:World,(Instr.sliceAt 47 (.pointer (some ⟨w.heap.size+1,0,none⟩)) none none none).run Tryz.prog w0=.ok (.slice (some ⟨w.heap.size+1,0,none⟩) 32 32) w0:=fun w0=>Cn w0 47 32 (by kernel_rfl) (by kernel_rfl) (by kernel_rfl) _ _
 generalize Lib.compareBytes a b=r at h ⊢;have H:=Lib.hid h;clear g1 g2 hA hB h;go_enter Tryz.func164,Tryz.ntmps164;go_wp2;refine AN (fun w0=>w0=((w.alloc (.cells A 47)).alloc (.cells B 47)).drew) 2 [(0,false),(1,false)] (by kernel_rfl) (by kernel_rfl) rfl ?_
 iterate 2 refine plan_look rfl rfl (fun w0 hS=>(by subst hS;go_simp;try rfl)) ?_
 refine Ab ?_;simp only[List.drop_succ_cons,List.drop_zero,Act.put,List.setIfInBounds_toArray,List.set_cons_succ,List.set_cons_zero];go_wp2_with fail;refine H.out.mono ?_;rintro e w1 ⟨rfl,rfl⟩;go_wp2;refine NoPanic.normal ?_;go_wp2;go_ret;exact⟨rfl,1, #[.cells A 47,.cells B 47],by rw[alloc_eq_grow,alloc_eq_grow,grow_grow];rfl⟩
end Go.Proofs.YtngbdbpofifimaaGreat.Path
namespace Go.Proofs.YtngbdbpofifimaaGreat.Law9
open Go.RowKit Go.Proofs.YtngbdbpofifimaaGreat.ShaW Go.Proofs.YtngbdbpofifimaaGreat.Path Go.Proofs.YtngbdbpofifimaaGreat.Store
theorem I7 {P:Program} {w:World} {ops:Array Oper} {rest:List Oper} {o:Oper} {a:Act} {Q:Exit→Act→World→Prop} (hgd:o.guard=none) (t k:Nat) (x:Operand) (ho:o.op=.build t #[(k,x)]) (vx:Value) (hx:a.eval x=vx)
 (cells:Array Value) (hf:P.built t [(k,vx)]=some cells) (h:wpList P ops Q rest (a.put o.dst (.agg cells)) w):wpList P ops Q (o::rest) a w :=
 wpList_build_is hgd t #[(k,x)] ho cells (by simpa[hx] using hf) h
theorem Q5:Tryz.prog.built 47 []=some (AK (XS 0)):=by kernel_rfl
theorem Bx.cellAt {w:World} {g o:Nat} {cs:Array Value} {i:Nat} {v:Value} (h:Bx w g o cs) (hi:cs[i]?=some v):w.cell? ⟨g,o+i,none⟩=some v:=by
 obtain⟨cur,t,fr,h1,h2,h3⟩:=h;refine AE h1 ?_;rw[←h3] at hi;have hlt:=(Array.getElem?_eq_some_iff.1 hi).1;rw[Array.getElem?_extract] at hi;simp at hi;exact hi.2
structure St9 (w0 w:World) (s:Nat) (σ:AA Nd) (root:Int) (L:AM) (n:Nat) (b:Nat):Prop where
 own:Ow w0 w s σ (fun _=>False)
 db:Db σ root L
 room:σ.room=n
 total:total σ≤b
def Xo (l:List Pr):Bool:=decide (16<l.length)||l.any (fun x=>decide (1024<x.val.length))
def Io (l:List Pr):List Value:=l.flatMap fun x=>x.cells.toList
def X5 (l:List Pr):Prop:=∀x∈l,x.key.length=32
theorem Mz (l m:List Pr):Io (l++m)=Io l++Io m:=by simp[Io]
def LP (w:World) (b:Nat) (v:Value) (l:List Pr):Prop:=w.ownsRow b 86 33 v l.length (Io l)
variable {w w' : World} {b : Nat} {v : Value} {l : List Pr}
theorem LP.form (h:LP w b v l):∃ao cap,v=.slice ao l.length cap:=Ad h
theorem LP.adds (h:LP w b v l) (a:Adds w w'):LP w' b v l:=a.owns h (fun _ _ h=>h)
theorem LP.nil (w:World) (b:Nat):LP w b (.slice none 0 0) []:=World.ownsRow_nil _ _ _ _
inductive Nz:List Pr→List Pr→Prop
 | nil:Nz [] []
 | new {l out:List Pr} {p:Pr} (h:Nz l out) (hp:∀q∈out,q.key≠p.key):Nz (l ++ [p]) (out ++ [p])
 | old {l out:List Pr} {p q:Pr} {i:Nat} (h:Nz l out) (hq:out[i]?=some q) (hk:q.key=p.key):Nz (l ++ [p]) (out.set i p)
end Go.Proofs.YtngbdbpofifimaaGreat.Law9
namespace Go.Proofs.YtngbdbpofifimaaGreat
open Go.RowKit
section
variable {P : Program} {ops : Array Oper} {Q : Exit→Act→World→Prop} {md : Region.Mode} {S : World→Prop} {k : Nat}
def YP (k:Nat) (S:World→Prop) (listed:Array Bool) (w:World):Prop:=listed.getD k false=true∨S w
def UR (P:Program) (md:Region.Mode) (ops:Array Oper) (Q:Exit→Act→World→Prop) (T:Array Bool→World→Prop) (n:Nat) (L:Array Bool→Act→World→Prop):Nat→Array Bool→Act→World→Prop
 | 0,listed,a,w=>L listed a w
 | f+1,listed,a,w =>
  Region.ready md ops listed ≠ []∧∀i∈Region.ready md ops listed,i<n∧wpOp P ops Q i (fun a' w'=>T (listed.setIfInBounds i true) w'∧UR P md ops Q T n L f (listed.setIfInBounds i true) a' w') a w
def NP (P:Program) (l:List Oper) (Q:Exit→Act→World→Prop) (k:Nat) (S:World→Prop) (n:Nat):List (Nat×Nat)→Bool→Act→World→Prop
 | [],_,a,w=>wpList P l.toArray Q (l.drop n) a w
 | (i,0)::r,past,a,w=>∃o v,l[i]?=some o∧YieldsIf P l.toArray (fun _=>True) o v a∧NP P l Q k S n r past (a.put o.dst v) w
 | (i,1)::r,past,a,w=>∃o v,l[i]?=some o∧YieldsIf P l.toArray S o v a∧NP P l Q k S n r past (a.put o.dst v) w
 | (i,_+2)::r,past,a,w=>wpOp P l.toArray Q i (fun a' w'=>((past||i == k)=true∨S w')∧NP P l Q k S n r (past||i == k) a' w') a w
def WS (md:Region.Mode) (ops:Array Oper) (k i:Nat):Bool:=match ops[k]? with
 | none=>false
 | some o=>o.after.any (fun e=>Region.binds md e&&(e.on == i))
def M1 (md:Region.Mode) (ops:Array Oper) (k n:Nat):List (Nat×Nat)→Array Bool→Bool
 | [],listed=>Region.seqB md ops (ops.size-n) n listed
 | (i,0)::r,listed=>decide (i<n)&&(i != k)&&(Region.ready md ops listed).contains i&&Region.free md ops listed i&&M1 md ops k n r (listed.setIfInBounds i true)
 | (i,1)::r,listed=>decide (i<n)&&(i != k)&&WS md ops k i&&(Region.ready md ops listed).contains i&&Region.free md ops listed i&&M1 md ops k n r (listed.setIfInBounds i true)
 | (i,_+2)::r,listed=>decide (i<n)&&decide (Region.ready md ops listed = [i])&&M1 md ops k n r (listed.setIfInBounds i true)
def XJ (md:Region.Mode) (ops:Array Oper) (k n:Nat) (p:List (Nat×Nat)):Bool :=
 Region.noSelect ops&&decide (p.length=n)&&decide (n≤ops.size)&&Js md ops n&&M1 md ops k n p (Array.replicate ops.size false)
end
end Go.Proofs.YtngbdbpofifimaaGreat
namespace Go.Proofs.YtngbdbpofifimaaGreat.Law9
open Go.RowKit Go.Proofs.YtngbdbpofifimaaGreat.ShaW Go.Proofs.YtngbdbpofifimaaGreat.Path Go.Proofs.YtngbdbpofifimaaGreat.Store
def pick (x:Int) (n:Nat):Int:=if Int.tmod x n<0 then Int.tmod x n+n else Int.tmod x n
theorem Ua (x:Int) {n:Nat} (hn:0<n):0≤pick x n∧pick x n<n:=by
 have h1:=Int.lt_tmod_of_pos x (show(0:Int)<n by omega);have h2:=Int.tmod_lt_of_pos x (show(0:Int)<n by omega);unfold pick;split<;>omega
def YM (out:List Pr) (key:List UInt8) (j:Nat) (x:Int):Prop:=(x = -1∧∀i q,i<j→out[i]?=some q→q.key≠key)∨∃(i:Nat) (q:Pr),i<j∧x=(i:Int)∧out[i]?=some q∧q.key=key
theorem Mx:(Tryz.prog.info? 86).map (·.size)=some 33:=by kernel_rfl
theorem MK:∃i z,Tryz.prog.info? 86=some i∧i.zero=some z∧i.size=33∧i.bytes=56∧z.cells.size=33:=by
 obtain⟨i,h1,h2,h3,h4⟩:=info_parts (P:=Tryz.prog) (e:=86) (z:=.agg (List.replicate 32 (Value.int .u8 0) ++ [Value.slice none 0 0]).toArray) (size:=33) (bytes:=56) (by kernel_rfl);exact⟨i,_,h1,h2,h3,h4,rfl⟩
end Go.Proofs.YtngbdbpofifimaaGreat.Law9
namespace Go.Proofs.YtngbdbpofifimaaGreat.Law9
open Go.RowKit Go.Sort Go.Proofs.YtngbdbpofifimaaGreat.ShaW Go.Proofs.YtngbdbpofifimaaGreat.Path Go.Proofs.YtngbdbpofifimaaGreat.Store
structure PrK where
 p:Pr
 len:p.key.length=32
 one:p.vv.oneCell'=true
instance:Inhabited PrK:=⟨⟨⟨List.replicate 32 0,.slice none 0 0,[]⟩,rfl,rfl⟩⟩
def YH (x:PrK):List Value:=x.p.cells.toList
def YT (x y:PrK):Int:=Lib.compareBytes x.p.key y.p.key
theorem Pe (w:World) (os:Array Obj) (q:Nat):(grow w os).drewN q=grow (w.drewN q) os:=rfl
end Go.Proofs.YtngbdbpofifimaaGreat.Law9
namespace Go.Proofs.YtngbdbpofifimaaGreat.Law9
open Go.RowKit Go.Proofs.YtngbdbpofifimaaGreat.ShaW Go.Proofs.YtngbdbpofifimaaGreat.Path Go.Proofs.YtngbdbpofifimaaGreat.Store
def C8 (w:World) (ao:Option Addr) (len:Nat):Prop:=∀i,i<len→∃(g off:Nat) (x:Int),ao=some ⟨g,off,none⟩∧w.cell? ⟨g,off+i,none⟩=some (.int .i64 x)∧(Lit.int .i64 x).wf=true∧g<w.heap.size
end Go.Proofs.YtngbdbpofifimaaGreat.Law9
namespace Go.Proofs.YtngbdbpofifimaaGreat.Store
open Go.RowKit Go.Proofs.YtngbdbpofifimaaGreat.Path Go.Maps
theorem S4:laidOutB Tryz.prog=true:=by kernel_rfl
theorem VZ:Keyed Tryz.prog 47:=Keyed.of_law (deep_law_laid S4 (m:=2) (by omega) (of_decide_eq_true (by kernel_rfl)) (by kernel_rfl) (by kernel_rfl))
theorem UB:Tryz.prog.keyType 47=true:=by kernel_rfl
theorem TL:Tryz.prog.cellsOf 47=32:=by kernel_rfl
theorem UT:Tryz.prog.cellsOf 5=1:=by kernel_rfl
theorem QE {α β:Type} {f:α→Option β} {g:α→β}:∀(l:List α),(∀x∈l,f x=some (g x))→l.mapM f=some (l.map g)
 | [],_=>rfl
 | x::l,h=>by
  rw[List.mapM_cons,h x (by simp),QE l (fun y hy=>h y (by simp[hy]))];rfl
theorem Ku (k:List UInt8) (hk:k.length=32):∃l,keyOf Tryz.prog 47 (.agg (AK k))=some l:=by
 have hsz:(AK k).size=32:=by simp[AK,hk]
 have hf:Value.formed Tryz.prog 47 (.agg (AK k))=true:=by
  unfold Value.formed;simp only[Tryz.underlying47,TL,hsz];rfl
 have hl:∀n,Tryz.prog.keyLits (n+2) 47 (AK k).toList=some (((List.range 32).map fun i => [Lit.int .u8 ((k.getD i 0).toNat:Int)]).flatten):=fun n=>by
  unfold Program.keyLits;simp only[Tryz.underlying47];rw[if_pos (by rw[TL,Array.length_toList,hsz]),QE (g:=fun i => [Lit.int .u8 ((k.getD i 0).toNat:Int)])]
  · rfl
  intro i hi;have hi:i<32:=List.mem_range.1 hi
  have hg:((AK k).toList.drop (i*Tryz.prog.cellsOf 5)).take (Tryz.prog.cellsOf 5) = [bv (k.getD i 0)]:=by
   rw[UT,Nat.mul_one];have h1:i<(AK k).toList.length:=by rw[Array.length_toList,hsz];exact hi
   rw[List.drop_eq_getElem_cons h1];have:=EH (l:=k) (i:=i) (by omega);rw[Array.getElem?_eq_getElem (by rw[hsz];exact hi)] at this;injection this with this;simp[this]
  rw[hg];unfold Program.keyLits;simp only[Tryz.underlying5,bv];have:=(k.getD i 0).toNat_lt;rw[if_pos ⟨trivial,WalkArith.wf_u8 ⟨by omega,by omega⟩⟩]
 unfold keyOf;simp only[Tryz.underlying47,UB,hf];obtain⟨m,hm⟩:∃m,Tryz.prog.types.size+1=m+2:=⟨Tryz.prog.types.size-1,by have:1≤Tryz.prog.types.size:=of_decide_eq_true (by kernel_rfl);omega⟩
 rw[hm];have e:=hl m
 show ∃l,Option.map _ (Tryz.prog.keyLits (m+2) 47 (AK k).toList)=some l
 rw[e];exact⟨_,rfl⟩
noncomputable abbrev Xa:Value→Option (DataW Value×List MemPlace):=plainElem Tryz.prog 4
noncomputable def kl (k:List UInt8):Lit:=if h:k.length=32 then Classical.choose (Ku k h) else .bool false
theorem IS {k:List UInt8} (hk:k.length=32):keyOf Tryz.prog 47 (.agg (AK k))=some (kl k):=by
 unfold kl;rw[dif_pos hk];exact Classical.choose_spec (Ku k hk)
theorem TB {a b:List UInt8} (h:AK a=AK b):a=b:=by
 have h2:a.map bv=b.map bv:=by have:=congrArg Array.toList h;simpa[AK] using this
 refine List.map_inj_right (fun x y e=>?_) |>.1 h2;simp only[bv,Value.int.injEq,true_and] at e;exact UInt8.toNat_inj.1 (by omega)
theorem WJ {a b:List UInt8} (ha:a.length=32) (hb:b.length=32) (h:kl a=kl b):a=b:=by
 have:=VZ.inj (IS ha) (by rw[h];exact IS hb);injection this with this;exact TB this
theorem Tp {k:List UInt8} (hk:k.length=32):WideAt.IsKeyLit (kl k):=VZ.key (IS hk)
def X8 (w:World) (b n:Nat) (S:List (List UInt8)):Prop:=∃D,w.ownsMap Tryz.prog 47 Xa b n D∧∀k:List UInt8,k.length=32→D.atKey (kl k) (.lit (.bool false))=.lit (.bool (decide (k∈S)))
end Go.Proofs.YtngbdbpofifimaaGreat.Store
namespace Go.Proofs.YtngbdbpofifimaaGreat.Law9
open Go.RowKit Go.Sort Go.Proofs.YtngbdbpofifimaaGreat.ShaW Go.Proofs.YtngbdbpofifimaaGreat.Path Go.Proofs.YtngbdbpofifimaaGreat.Store
def YJ (a:Option Addr) (cap i:Nat):Option Addr:=if cap=i then a else a.map (·.add (i*33))
def Pu:Pr:=⟨List.replicate 32 0,.slice none 0 0,[]⟩
theorem O6:(Tryz.prog.info? 86).bind (·.zero)=some (.agg Pu.cells):=by kernel_rfl
def XC (l:List Pr):Prop:=l.length≤4096∧(∀x∈l,x.val.length≤1024)∧(l.map (·.key)).Nodup
def seen (l:List Pr) (k:Nat):List (List UInt8):=((l.take k).map (·.key)).reverse
theorem BS {P:Program} {S:World→Prop} {Q:Exit→Act→World→Prop} {l:List Oper} {n i:Nat} {r:List (Nat×Bool)} {a:Act} {w:World} {o:Oper} (ho:l[i]?=some o) (hw:Region.wanted o (yielded l.toArray a.tmps)=true) (ty:TypeId) (x:Operand) (hop:o.op=.load ty x) (g off k:Nat) (hx:a.eval x=.pointer (some ⟨g,off,none⟩))
 {t:TypeId} {cur:Array Value} {fr:Nat×Nat} {d:TypeDesc} (hg:∀w0,S w0→w0.heap[g]?=some (.cells cur t fr)) (hu:P.underlying ty=some d) (hd:d.isRow=true) (hi:(P.info? ty).map (·.size)=some k) (hfit:off+k≤cur.size) (cs:Array Value) (hv:cur.extract off (off+k)=cs)
 (h:Bb P l Q S n r (a.put o.dst (.agg cs)) w):Bb P l Q S n ((i,false)::r) a w :=
 plan_look ho hw (fun w0 hS=>by
  unfold execOp;simp only[hop,hx,Instr.loadAt,Instr.sureAddr,Sem.run_bind,Sem.run_pure,Result.andThen_ok,Bh w0 (hg w0 hS) hu hd hi hfit,hv]) h
theorem KZ {w:World} {ao:Option Addr} {l:List Wm} (cap:Nat) (h:CQ w ao l) (hn:l.length≤4096) (d:Nat) (hd:d<256) :
 Calls Tryz.prog 212 #[.slice ao l.length cap,.int .i64 (d:Int)] w fun e w'=>Adds w w'∧∃n:Nat,e=.returned (.int .i64 n)∧n≤l.length∧(∀i x,i<n→l[i]?=some x→AQ x.key d=0)∧(∀x,l[n]?=some x→AQ x.key d=1):=by
 obtain⟨len,hlen⟩:∃len,len=l.length:=⟨_,rfl⟩
 rw[←hlen] at hn ⊢;have HL:=Lib.hid hlen;have HP:=Lib.hid h;have HD:=Lib.hid hd;clear h hlen hd;go_enter Tryz.func212,Tryz.ntmps212;go_wp2;go_loopg [5] len (fun g s5 wr=>∃k:Nat,s5=.int .i64 k∧k+g=len∧(∀i x,i<k→l[i]?=some x→AQ x.key d=0)∧Adds w wr)
 case atStart=>exact⟨0,rfl,by omega,fun i x hi=>absurd hi (Nat.not_lt_zero _),Ch.refl _ _⟩
 obtain⟨k,rfl,hk,h0,hA⟩:=hrel;have HA:=Lib.hid hA;have H0:=Lib.hid h0;have HKG:=Lib.hid hk;clear hA h0;by_cases hkl:k=len
 · have hx1:decide ((k:Int)<(len:Int))=false:=decide_eq_false (by omega)
   have hx1':decide (k<len)=false:=decide_eq_false (by omega);have HKL:=Lib.hid hkl;clear hk hkl;go_wp2;go_ret
   exact⟨HA.out,k,rfl,by have:=HKL.out;omega,H0.out,fun x hx=>by
    have:=(List.getElem?_eq_some_iff.1 hx).1;have:=HKL.out;have:=HL.out;omega⟩
 have hx1:decide ((k:Int)<(len:Int))=true:=decide_eq_true (by omega);have hx1':decide (k<len)=true:=decide_eq_true (by omega);have hkl':k<l.length:=by have:=HL.out;omega
 have hklen:(k:Int)<(len:Int):=by omega
 have hklen':k<len:=by omega
 obtain⟨x,hx⟩:∃x,l[k]?=some x:=⟨_,List.getElem?_eq_getElem hkl'⟩
 obtain⟨g0,off,rfl,hp⟩:=HP.out.row k x hx;have hg:=HP.out.good x (List.mem_of_getElem? hx);have hsz:=Wm.size hg.key;obtain⟨cur,ty,fr,c1,c2,c3⟩:=hp;rw[hsz] at c2 c3;obtain⟨ck,_⟩:=NZ hg.key c3;have hb:=Gm x.key hg.key d wr;rw[DP HD.out] at hb;obtain⟨K,hK⟩:∃K,K=AK x.key:=⟨_,rfl⟩
 rw[←hK] at ck hb;have HC:=(hIq (HA.out.row c1 id) (aIq c2 ck))
 have HX:=Lib.hid hx;have HB:=Lib.hid hb;have hlt:=Am x.key d;obtain⟨b,hbb⟩:∃b,b=AQ x.key d:=⟨_,rfl⟩
 rw[←hbb] at hlt HB;have HBB:=Lib.hid hbb;clear hk hkl hg hsz c1 c2 c3 ck hK hx hb hbb;rcases hlt with rfl|rfl
 · go_wp2_with (first
    | fail
    | ((with_reducible show zOq (.load 47 _));refine AG rfl 47 _ rfl g0 (off+k*34) rfl HC.out.1 Tryz.underlying47 rfl Aa (by have:=HC.out.2.1;omega) K HC.out.2.2 ?_)
    | ((with_reducible show zOq (.load 47 _));refine Bo (by first|rfl|(simp[Region.wanted];done)) 47 _ rfl g0 (off+k*34) rfl HC.out.1 Tryz.underlying47 rfl Aa (by have:=HC.out.2.1;omega) K HC.out.2.2 ?_))
   refine HB.out.mono ?_;rintro e w2 ⟨rfl,a2⟩;have A2:=Lib.hid (HA.out.trans a2 (fun _=>fEq));clear a2;go_wp2;go_roundg (gk-1)
   case measure=>have:=HKG.out;omega
   exact⟨k+1,rfl,by have:=HKG.out;omega,fun i y hi hy=>by
    rcases Nat.lt_or_ge i k with h|h
    · exact H0.out i y h hy
    have:i=k:=by omega
    subst this;have hx:=HX.out;rw[hx] at hy;cases hy;exact HBB.out.symm,A2.out⟩
 go_wp2_with (first
  | fail
  | ((with_reducible show zOq (.load 47 _));refine AG rfl 47 _ rfl g0 (off+k*34) rfl HC.out.1 Tryz.underlying47 rfl Aa (by have:=HC.out.2.1;omega) K HC.out.2.2 ?_)
  | ((with_reducible show zOq (.load 47 _));refine Bo (by first|rfl|(simp[Region.wanted];done)) 47 _ rfl g0 (off+k*34) rfl HC.out.1 Tryz.underlying47 rfl Aa (by have:=HC.out.2.1;omega) K HC.out.2.2 ?_))
 refine HB.out.mono ?_;rintro e w2 ⟨rfl,a2⟩;have A2:=Lib.hid (HA.out.trans a2 (fun _=>fEq));clear a2;go_wp2;go_ret
 exact⟨A2.out,k,rfl,by omega,H0.out,fun y hy=>by
  have hx:=HX.out;rw[hx] at hy;cases hy;exact HBB.out.symm⟩
section
variable {w0 w : World} {s : Nat} {σ : AA Nd} {G : Nat→Prop}
theorem NB (h:Ow w0 w s σ G) (n:Int):Calls Tryz.prog 209 #[.pointer (some ⟨s,0,none⟩),.int .i64 n] w fun e w'=>e=.returned (.int .i64 n)∧Ow w0 w' s (Al σ n) G∧But G w w':=by
 by_cases h0:n=0
 · have e:Al σ n=σ:=by unfold Al;rw[if_neg (by simpa using h0)]
   rw[e];have H:=Lib.hid h;clear h e;go_enter Tryz.func209,Tryz.ntmps209;go_wp2;go_ret;exact⟨rfl,H.out,Ch.refl _ _⟩
 have e:Al σ n=(Az σ n).2:=by unfold Al;rw[if_pos h0]
 rw[e];have HO:=Lib.hid (h.hold n);clear h e;go_enter Tryz.func209,Tryz.ntmps209;go_wp2_with fail;refine HO.out.mono ?_;rintro e w1 ⟨rfl,o1,b1⟩;have H1:=(hIq o1 b1)
 clear o1 b1;go_wp2;go_ret;exact⟨rfl,H1.out⟩
theorem Lq (h:Ow w0 w s σ G) (d l r:Int):Calls Tryz.prog 213 #[.pointer (some ⟨s,0,none⟩),.int .i64 d,.int .i64 l,.int .i64 r] w fun e w'=>e=.returned (.int .i64 (Gz σ d l r).1)∧Ow w0 w' s (Gz σ d l r).2 G∧But G w w':=by
 obtain⟨F,hAt⟩:=h.at;have hkl:=fun w1 (a:Adds w w1) n=>Eu (hAt.adds a) n
 have hin:=fun w1 (a:Adds w w1)=>(h.adds a).inner d l r
 have hz:(nd σ 0).kind=0:=rfl;have H:=Lib.hid h;have HK:=Lib.hid hkl;have HI:=Lib.hid hin;obtain⟨kr,hkr⟩:∃k,k=(nd σ r).kind:=⟨_,rfl⟩
 obtain⟨kl,hkl2⟩:∃k,k=(nd σ l).kind:=⟨_,rfl⟩
 have HKR:=(hIq hkr hkl2)
 unfold Gz;rw[←hkr, ←hkl2];by_cases h1:l=0
 · subst h1
   by_cases h2:kr=2
   · have hr:¬r=0:=fun e=>by rw[e,hz] at hkr;omega
     rw[if_neg (fun h=>h.2 h2),if_neg (fun h=>hr h.1)];have t2:((kr:Nat):Int)=2:=by omega
     clear h hkl hin hz hkr hkl2 hAt h2;go_enter Tryz.func213,Tryz.ntmps213;go_wp2_with fail;refine(HK.out w (Ch.refl _ _) r).mono ?_;rintro e w1 ⟨rfl,a1⟩;rw[←HKR.out.1,t2];have A1:=Lib.hid a1;clear a1;go_wp2_with fail;refine(HI.out _ A1.out).mono ?_;rintro e w2 ⟨rfl,o2,b2⟩;have H2:=(hIq o2 ((Adds.but A1.out).then b2))
     clear o2 b2;go_wp2;go_ret;exact⟨rfl,H2.out⟩
   rw[if_pos ⟨rfl,h2⟩];have t2:¬((kr:Nat):Int)=2:=by omega
   clear h hkl hin hz hkr hkl2 hAt h2;go_enter Tryz.func213,Tryz.ntmps213;go_wp2_with fail;refine(HK.out w (Ch.refl _ _) r).mono ?_;rintro e w1 ⟨rfl,a1⟩;rw[←HKR.out.1];have A1:=Lib.hid a1;clear a1;go_wp2;go_ret;exact⟨rfl,H.out.adds A1.out,Adds.but A1.out⟩
 rw[if_neg (fun h=>h1 h.1)];by_cases h0:r=0
 · subst h0
   by_cases h2:kl=2
   · rw[if_neg (fun h=>h.2 h2)]
     have t2:((kl:Nat):Int)=2:=by omega
     clear h hkl hin hz hkr hkl2 hAt h2;go_enter Tryz.func213,Tryz.ntmps213;go_wp2_with fail;refine(HK.out w (Ch.refl _ _) l).mono ?_;rintro e w1 ⟨rfl,a1⟩;rw[←HKR.out.2,t2];have A1:=Lib.hid a1;clear a1;go_wp2_with fail;refine(HI.out _ A1.out).mono ?_;rintro e w2 ⟨rfl,o2,b2⟩;have H2:=(hIq o2 ((Adds.but A1.out).then b2))
     clear o2 b2;go_wp2;go_ret;exact⟨rfl,H2.out⟩
   rw[if_pos ⟨rfl,h2⟩];have t2:¬((kl:Nat):Int)=2:=by omega
   clear h hkl hin hz hkr hkl2 hAt h2;go_enter Tryz.func213,Tryz.ntmps213;go_wp2_with fail;refine(HK.out w (Ch.refl _ _) l).mono ?_;rintro e w1 ⟨rfl,a1⟩;rw[←HKR.out.2];have A1:=Lib.hid a1;clear a1;go_wp2;go_ret;exact⟨rfl,H.out.adds A1.out,Adds.but A1.out⟩
 rw[if_neg (fun h=>h0 h.1)];clear h hkl hin hz hkr hkl2 hAt;go_enter Tryz.func213,Tryz.ntmps213;go_wp2_with fail;refine(HI.out _ (Ch.refl _ _)).mono ?_;rintro e w2 ⟨rfl,o2,b2⟩;have H2:=(hIq o2 b2)
 clear o2 b2;go_wp2;go_ret;exact⟨rfl,H2.out⟩
end
end Go.Proofs.YtngbdbpofifimaaGreat.Law9
namespace Go.Proofs.YtngbdbpofifimaaGreat.Store
open Go.RowKit
theorem Bs {P:Program} {C:Code} {Q:Exit→Act→World→Prop} {a:Act} {w:World} (h:∀w0,w0=w→C.wp P Q a w0):C.wp P Q a w:=h w rfl
theorem Oo {P:Program} (w:World) (t e:TypeId) (ie:TypeInfo) (z v u:Value) (hu:P.underlying t=some (.slice e)) (hie:P.info? e=some ie) (hz:ie.zero=some z) (hsmall:ie.size≤65536) (hpos:0<ie.size) (hv:v.cells.size=ie.size) (hu2:u.cells.size=ie.size) :
 (Instr.buildSlice t 2 #[(0,v),(1,u)]).run P w=.ok (.slice (some ⟨w.heap.size,0,none⟩) 2 2) (w.alloc (.cells (v.cells++u.cells) e)):=by
 refine run_buildSlice w t e 2 #[(0,v),(1,u)] (v.cells++u.cells) ie z hu hie hz (by omega) (by omega) ?_
 show Instr.fill _ _ [(0,v),(1,u)]=_
 rw[Ai (off:=0) (size:=ie.size) (by simp) hv (by simp;omega)];rw[Ai (off:=ie.size) (size:=ie.size) (by simp) hu2 (by simp[splice,hv];omega)];simp only[Instr.fill,splice,Option.some.injEq];apply Array.ext';simp[hv,hu2];omega
theorem J9 {P:Program} {w:World} {ops:Array Oper} {rest:List Oper} {o:Oper} {a:Act} {Q:Exit→Act→World→Prop} (hgd:o.guard=none) (t:TypeId) (x y:Operand) (ho:o.op=.buildSlice t 2 #[(0,x),(1,y)])
 (e:TypeId) (ie:TypeInfo) (z v u:Value) (hx:a.eval x=v) (hy:a.eval y=u) (hu:P.underlying t=some (.slice e)) (hie:P.info? e=some ie) (hz:ie.zero=some z) (hsmall:ie.size≤65536) (hpos:0<ie.size) (hv:v.cells.size=ie.size) (hu2:u.cells.size=ie.size)
 (h:wpList P ops Q rest (a.put o.dst (.slice (some ⟨w.heap.size,0,none⟩) 2 2)) (w.alloc (.cells (v.cells++u.cells) e))):wpList P ops Q (o::rest) a w :=
 wpList_plain hgd fun _ hK=>by
  unfold Oper.wp execOp;have:=Oo w t e ie z v u hu hie hz hsmall hpos hv hu2;simp only[ho,List.map_toArray,List.map_cons,List.map_nil,hx,hy,Sem.run_bind,this,Result.andThen_ok];exact hK _ _ h
theorem LW {A B C Z:List Value} {n:Nat} (hA:A.length=n) (hB:B.length=n) (hC:C.length=n) (hZ:Z.length=3*n) :
 List.take (2*n) (A++(B++List.drop (n+n) (A++List.drop n Z)))++(C++List.drop (2*n+n) (A++(B++List.drop (n+n) (A++List.drop n Z))))=A++(B++C):=by
 have e1:List.drop (n+n) (A++List.drop n Z)=List.drop (2*n) Z:=by
  rw[List.drop_append,List.drop_eq_nil_of_le (by omega),hA,List.nil_append,List.drop_drop]
  congr 1
  omega
 rw[e1, ←List.append_assoc A B,List.take_left' (by rw[List.length_append];omega),List.drop_eq_nil_of_le (by simp only[List.length_append,List.length_drop];omega),List.append_nil,List.append_assoc]
theorem Om {P:Program} (w:World) (t e:TypeId) (ie:TypeInfo) (z v u x:Value) (hu:P.underlying t=some (.slice e)) (hie:P.info? e=some ie) (hz:ie.zero=some z) (hsmall:ie.size≤65536) (hpos:0<ie.size) (hv:v.cells.size=ie.size) (hu2:u.cells.size=ie.size) (hx2:x.cells.size=ie.size) :
 (Instr.buildSlice t 3 #[(0,v),(1,u),(2,x)]).run P w=.ok (.slice (some ⟨w.heap.size,0,none⟩) 3 3) (w.alloc (.cells (v.cells++u.cells++x.cells) e)):=by
 refine run_buildSlice w t e 3 #[(0,v),(1,u),(2,x)] (v.cells++u.cells++x.cells) ie z hu hie hz (by omega) (by omega) ?_
 show Instr.fill _ _ [(0,v),(1,u),(2,x)]=_
 rw[Ai (off:=0) (size:=ie.size) (by simp) hv (by simp;omega)];rw[Ai (off:=ie.size) (size:=ie.size) (by simp) hu2 (by simp[splice,hv];omega)];rw[Ai (off:=2*ie.size) (size:=ie.size) (by simp) hx2 (by simp[splice,hv,hu2];omega)];simp only[Instr.fill,splice,Option.some.injEq];apply Array.ext';simp[hv,hu2,hx2];exact LW (by simp[hv]) (by simp[hu2]) (by simp[hx2]) (by simp)
theorem Kx {P:Program} {w:World} {ops:Array Oper} {rest:List Oper} {o:Oper} {a:Act} {Q:Exit→Act→World→Prop} (hgd:o.guard=none) (t:TypeId) (x y q:Operand) (ho:o.op=.buildSlice t 3 #[(0,x),(1,y),(2,q)])
 (e:TypeId) (ie:TypeInfo) (z v u r:Value) (hx:a.eval x=v) (hy:a.eval y=u) (hq:a.eval q=r) (hu:P.underlying t=some (.slice e)) (hie:P.info? e=some ie) (hz:ie.zero=some z) (hsmall:ie.size≤65536) (hpos:0<ie.size) (hv:v.cells.size=ie.size) (hu2:u.cells.size=ie.size) (hr2:r.cells.size=ie.size)
 (h:wpList P ops Q rest (a.put o.dst (.slice (some ⟨w.heap.size,0,none⟩) 3 3)) (w.alloc (.cells (v.cells++u.cells++r.cells) e))):wpList P ops Q (o::rest) a w :=
 wpList_plain hgd fun _ hK=>by
  unfold Oper.wp execOp;have:=Om w t e ie z v u r hu hie hz hsmall hpos hv hu2 hr2;simp only[ho,List.map_toArray,List.map_cons,List.map_nil,hx,hy,hq,Sem.run_bind,this,Result.andThen_ok];exact hK _ _ h
end Go.Proofs.YtngbdbpofifimaaGreat.Store
