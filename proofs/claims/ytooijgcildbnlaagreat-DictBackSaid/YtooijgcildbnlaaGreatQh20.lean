/- Laws of the layers below. -/
import Derived.Test.YtooijgcildbnlaaGreatQh12
import Derived.Test.YtooijgcildbnlaaGreatQh19
import Derived.Shelf.SlSortCmp.WholeK
import Derived.Shelf.SlSortCmp.NoneTotal
import Derived.Test.YtooijgcildbnlaaGreatChecked
import Derived.Laws.Externs
import Derived.Sort.Grow
import Derived.Maps.OwnOps
import Derived.Maps.OwnSet
import Derived.DeepKeys4
import Derived.WalkArith
import Derived.Lib.SliceRun
set_option maxHeartbeats 3200000
set_option maxRecDepth 100000
set_option linter.unusedVariables false
namespace Go.Proofs.YtooijgcildbnlaaGreat.BW
open Go.RowKit Go.Proofs.YtooijgcildbnlaaGreat.ShaW Go.Proofs.YtooijgcildbnlaaGreat.Path Go.Proofs.YtooijgcildbnlaaGreat.Store
structure Wm where
 key:List UInt8
 gone:Bool
 vv:Value
 val:List UInt8
instance:Inhabited Wm:=⟨⟨[],false,.slice none 0 0,[]⟩⟩
def Wm.cells (x:Wm):Array Value:=(x.key.map bv ++ [.bool x.gone,x.vv]).toArray
def Wm.ent (x:Wm):List UInt8×List UInt8:=(x.key,x.val)
def Wm.wp (x:Wm):List UInt8×Option (List UInt8):=(x.key,if x.gone then none else some x.val)
structure Wm.Good (w:World) (x:Wm):Prop where
 key:x.key.length=32
 val:Bytes w x.vv x.val
 blk:x.val ≠ []→∀k,x.vv.ownBlock=some k→k<w.heap.size
theorem Wm.Good.Ae {F:Nat→Prop} {w w':World} {x:Wm} (h:x.Good w) (hc:Ch F w w') (hF:∀k,F k→w.heap.size≤k):x.Good w' :=
 ⟨h.key,h.val.Jl hc (fun h0 k hk hf=>by have:=h.blk h0 k hk;have:=hF k hf;omega),fun h0 k hk=>Nat.lt_of_lt_of_le (h.blk h0 k hk) hc.size⟩
section
variable {x : Wm} (h : x.key.length=32)
include h
theorem Wm.size:x.cells.size=34:=by simp[Wm.cells,h]
omit h in
theorem Wm.list:x.cells.toList=x.key.map bv ++ [.bool x.gone,x.vv]:=rfl
theorem Wm.BO:x.cells.extract 0 (0+32)=AJ x.key:=by
 apply Array.ext';simp only[Array.toList_extract,List.extract,Wm.list,AJ,List.drop_zero];rw[List.take_append_of_le_length (by simp[h]),List.take_of_length_le (by simp[h])]
theorem Wm.Is:x.cells[32]?=some (.bool x.gone):=by
 rw[←Array.getElem?_toList,Wm.list,List.getElem?_append_right (by simp[h])];simp[h]
theorem Wm.GJ:x.cells[33]?=some x.vv:=by
 rw[←Array.getElem?_toList,Wm.list,List.getElem?_append_right (by simp[h])];simp[h]
theorem Mk {cur:Array Value} {o:Nat} (c3:cur.extract o (o+34)=x.cells):cur.extract o (o+32)=AJ x.key∧cur[o+32]?=some (.bool x.gone)∧cur[o+33]?=some x.vv:=by
 have hs:=Wm.size h;have h':cur.extract o (o+x.cells.size)=x.cells:=by rw[hs];exact c3
 exact⟨Oy h' (by rw[hs];omega) (Wm.BO h),Li h' (Wm.Is h),Li h' (Wm.GJ h)⟩
end
theorem Wm.one {w:World} {x:Wm} (h:x.Good w):∀v∈x.cells.toList,v.oneCell'=true:=fun v hv=>by
 rw[Wm.list,List.mem_append,List.mem_map] at hv;rcases hv with⟨b,_,rfl⟩|hv
 · rfl
 obtain⟨ao,cap,e,_⟩:=h.val.form;simp at hv;rcases hv with rfl|rfl
 · rfl
 rw[e];rfl
structure CB (w:World) (ao:Option Addr) (l:List Wm):Prop where
 good:∀x∈l,x.Good w
 row:Dg 34 Wm.cells w ao l
section
variable {w w' : World} {ao : Option Addr} {l : List Wm}
theorem CB.Ae {F:Nat→Prop} (h:CB w ao l) (hc:Ch F w w') (hF:∀k,F k→w.heap.size≤k):CB w' ao l:=⟨fun x hx=>(h.good x hx).Ae hc hF,h.row.Ae hc hF⟩
theorem CB.adds (h:CB w ao l) (a:Adds w w'):CB w' ao l:=h.Ae a (fun _=>fEq)
theorem CB.take (h:CB w ao l) (n:Nat):CB w ao (l.take n):=⟨fun x hx=>h.good x (List.mem_of_mem_take hx),h.row.take n⟩
theorem CB.drop (h:CB w ao l) (n cap:Nat) (hc:l.length≤cap):CB w (Lr 34 ao cap n) (l.drop n):=⟨fun x hx=>h.good x (List.mem_of_mem_drop hx),h.row.drop n cap hc⟩
theorem CB.nil (w:World) (ao:Option Addr):CB w ao []:=⟨fun x hx=>(by cases hx),fun i x hi=>(by simp at hi)⟩
end
theorem TE:(Tryz.prog.info? (Tryz.prog.elem 199)).map (·.size)=some 34:=by kernel_rfl
theorem Ds:(Tryz.prog.info? 203).map (·.size)=some 34:=by kernel_rfl
theorem Ir:Tryz.prog.underlying 199=some (.slice (Tryz.prog.elem 199)):=by kernel_rfl
theorem MO (w:World):(sizeOf (Tryz.prog.elem 199)).run Tryz.prog w=.ok 34 w:=by
 have hs:=TE;cases hq:Tryz.prog.info? (Tryz.prog.elem 199) with
 | none=>rw[hq] at hs;cases hs
 | some inf =>
  rw[hq] at hs;have hs':inf.size=34:=by simpa using hs
  simp[sizeOf,typeInfo,hq,hs']
theorem MV (w:World) (ao:Option Addr) (len cap i:Nat) (hi:i≤len) :
 (Instr.sliceAt 199 (.slice ao len cap) (some (.int .i64 (i:Int))) none none).run Tryz.prog w=.ok (.slice (Lr 34 ao cap i) (len-i) (cap-i)) w:=by
 rw[run_sliceAt_slice w _ _ _ _ _ Ir,run_slice_l w _ ao len cap Ir .i64 (i:Int) (by omega) (by omega)];simp only[MO w,Result.andThen_ok,sliced,Int.toNat_natCast];rfl
theorem MD (w:World) (ao:Option Addr) (len cap i:Nat) (hi:i≤cap) :
 (Instr.sliceAt 199 (.slice ao len cap) none (some (.int .i64 (i:Int))) none).run Tryz.prog w=.ok (.slice ao i cap) w:=by
 rw[run_sliceAt_slice w _ _ _ _ _ Ir,run_slice_h w _ ao len cap Ir .i64 (i:Int) (by omega) (by omega)]
 have e:(Value.slice (if cap=0 then ao else ao.map (·.add (0*34))) (i-0) (cap-0))=.slice ao i cap:=by
  rw[Nat.zero_mul,Nat.sub_zero,Nat.sub_zero]
  congr 1
  split
  · rfl
  cases ao<;>rfl
 simp only[MO w,Result.andThen_ok,sliced,Int.toNat_natCast,e]
end Go.Proofs.YtooijgcildbnlaaGreat.BW
namespace Go.Proofs.YtooijgcildbnlaaGreat
open Go.Shelf
def RQ:Go.Shelf.Ren:=⟨fun|6=>273|15=>288|14=>298|28=>310|29=>311|20=>325|21=>326|22=>327|23=>328|24=>329|25=>330|26=>331|27=>332|46=>344|47=>335|48=>336|49=>345|50=>346|57=>349|n=>n,fun|22=>33|24=>141|25=>361|3=>3|39=>358|0=>0|53=>349|55=>356|4=>4|46=>390|45=>389|50=>296|5=>5|9=>9|66=>410|70=>414|76=>421|77=>244|n=>n,fun|n=>n⟩
end Go.Proofs.YtooijgcildbnlaaGreat
namespace Go.Proofs.YtooijgcildbnlaaGreat.Path
open Go.RowKit Go.Sort
theorem IF (a b:ByteArray) (w:World):Calls Tryz.prog 299 #[.string a,.string b] w fun e w'=>e=.returned (.int .i64 (Lib.compareBytes a.data.toList b.data.toList))∧w=w':=by
 go_enter Tryz.func299,Tryz.ntmps299;go_wp2;rw[run_callFunc_extern Tryz.func333 (by kernel_rfl) (by kernel_rfl) (by kernel_rfl) (e:=Extern.BytealgCompare.compare) (by kernel_rfl),Lib.run_compareString];simp only[Result.andThen];rw[Oper.upon_value];go_wp2;go_ret;exact⟨rfl,rfl⟩
theorem J6 (a b:ByteArray) (w:World):Calls Tryz.prog 282 #[.string a,.string b] w fun e w'=>e=.returned (.int .i64 (Lib.compareBytes a.data.toList b.data.toList))∧w=w':=by
 have h:=IF a b w;generalize Lib.compareBytes a.data.toList b.data.toList=r at h ⊢;go_enter Tryz.func282,Tryz.ntmps282;go_wp2_with fail;refine h.mono ?_;rintro e w1 ⟨rfl,rfl⟩;go_wp2;go_ret;exact⟨rfl,rfl⟩
def DF (x:List UInt8):List Int:=x.map fun b=>(b.toNat:Int)
theorem Jt (x:List UInt8):(strOfNums (DF x)).data.toList=x:=by
 rw[strOfNums_data];unfold DF;rw[List.map_map]
 conv=>rhs;rw[←List.map_id x]
 refine List.map_congr_left fun b _=>?_
 simp
theorem J5 {w:World} {g1 g2 c1 c2:Nat} {t1 t2:TypeId} {f1 f2:Nat×Nat} (x y:List UInt8) (hx:w.heap[g1]?=some (.cells (AJ x) t1 f1)) (hy:w.heap[g2]?=some (.cells (AJ y) t2 f2)) :
 Calls Tryz.prog 231 #[.slice (some ⟨g1,0,none⟩) x.length c1,.slice (some ⟨g2,0,none⟩) y.length c2] w fun e w'=>e=.returned (.int .i64 (Lib.compareBytes x y))∧w=w':=by
 have get:∀(z:List UInt8) (i:Nat),i<z.length→(AJ z)[i]?=some (.int .u8 ((DF z).getD i 0)):=fun z i hi=>by
  rw[Dd hi];simp[DF,bv,hi]
 have r1:(convert 73 9 (.slice (some ⟨g1,0,none⟩) x.length c1)).run Tryz.prog w=.ok (.string (strOfNums (DF x))) w :=
  run_convert_bytes_arg w _ _ Tryz.underlying73 Tryz.underlying5 g1 0 x.length c1 (DF x) (by simp[DF]) (fun i hi=>by rw[Nat.zero_add];exact AE hx (get x i hi)) _ Tryz.underlying9
 have r2:(convert 73 9 (.slice (some ⟨g2,0,none⟩) y.length c2)).run Tryz.prog w=.ok (.string (strOfNums (DF y))) w :=
  run_convert_bytes_arg w _ _ Tryz.underlying73 Tryz.underlying5 g2 0 y.length c2 (DF y) (by simp[DF]) (fun i hi=>by rw[Nat.zero_add];exact AE hy (get y i hi)) _ Tryz.underlying9
 have h:=J6 (strOfNums (DF x)) (strOfNums (DF y)) w;rw[Jt,Jt] at h;generalize Lib.compareBytes x y=r at h ⊢;generalize strOfNums (DF x)=s1 at r1 h;generalize strOfNums (DF y)=s2 at r2 h;clear get hx hy;go_enter Tryz.func231,Tryz.ntmps231;go_wp2_with fail;refine h.mono ?_;rintro e w1 ⟨rfl,rfl⟩;go_wp2;go_ret;exact⟨rfl,rfl⟩
theorem NS (a b:List UInt8) (ha:a.length=32) (hb:b.length=32) (w:World) :
 Calls Tryz.prog 159 #[.agg (AJ a),.agg (AJ b)] w fun e w'=>e=.returned (.int .i64 (Lib.compareBytes a b))∧∃q os,w'=grow (w.drewN q) os:=by
 obtain⟨A,hA⟩:∃A,A=AJ a:=⟨_,rfl⟩
 obtain⟨B,hB⟩:∃B,B=AJ b:=⟨_,rfl⟩
 have g1:((w.alloc (.cells A 24)).alloc (.cells B 24)).drew.heap[w.heap.size]?=some (.cells A 24 (0,0)):=AQ (AH (heap_alloc_new _ _) _)
 have g2:((w.alloc (.cells A 24)).alloc (.cells B 24)).drew.heap[w.heap.size+1]?=some (.cells B 24 (0,0)):=by
  have:=heap_alloc_new (w.alloc (.cells A 24)) (.cells B 24);exact AQ (by simpa using this)
 have h:=J5 (c1:=32) (c2:=32) a b (by rw[←hA];exact g1) (by rw[←hB];exact g2);rw[ha,hb] at h;rw[←hA, ←hB];have hs0:∀w0:World,(Instr.sliceAt 24 (.pointer (some ⟨w.heap.size,0,none⟩)) none none none).run Tryz.prog w0=.ok (.slice (some ⟨w.heap.size,0,none⟩) 32 32) w0:=fun w0=>C7 w0 24 32 (by kernel_rfl) (by kernel_rfl) (by kernel_rfl) _ _
 have hs1:∀w0:World,(Instr.sliceAt 24 (.pointer (some ⟨w.heap.size+1,0,none⟩)) none none none).run Tryz.prog w0=.ok (.slice (some ⟨w.heap.size+1,0,none⟩) 32 32) w0:=fun w0=>C7 w0 24 32 (by kernel_rfl) (by kernel_rfl) (by kernel_rfl) _ _
 generalize Lib.compareBytes a b=r at h ⊢;have H:=Lib.hid h;clear g1 g2 hA hB h;go_enter Tryz.func159,Tryz.ntmps159;go_wp2;refine AN (fun w0=>w0=((w.alloc (.cells A 24)).alloc (.cells B 24)).drew) 2 [(0,false),(1,false)] (by kernel_rfl) (by kernel_rfl) rfl ?_
 iterate 2 refine plan_look rfl rfl (fun w0 hS=>(by subst hS;go_simp;try rfl)) ?_
 refine Ab ?_;simp only[List.drop_succ_cons,List.drop_zero,Act.put,List.setIfInBounds_toArray,List.set_cons_succ,List.set_cons_zero];go_wp2_with fail;refine H.out.mono ?_;rintro e w1 ⟨rfl,rfl⟩;go_wp2;refine NoPanic.normal ?_;go_wp2;go_ret;exact⟨rfl,1, #[.cells A 24,.cells B 24],by rw[alloc_eq_grow,alloc_eq_grow,grow_grow];rfl⟩
end Go.Proofs.YtooijgcildbnlaaGreat.Path
namespace Go.Proofs.YtooijgcildbnlaaGreat.BW
open Go.RowKit Go.Proofs.YtooijgcildbnlaaGreat.ShaW Go.Proofs.YtooijgcildbnlaaGreat.Path Go.Proofs.YtooijgcildbnlaaGreat.Store
theorem Hx {P:Program} {w:World} {ops:Array Oper} {rest:List Oper} {o:Oper} {a:Act} {Q:Exit→Act→World→Prop} (hgd:o.guard=none) (t k:Nat) (x:Operand) (ho:o.op=.build t #[(k,x)]) (vx:Value) (hx:a.eval x=vx)
 (cells:Array Value) (hf:P.built t [(k,vx)]=some cells) (h:wpList P ops Q rest (a.put o.dst (.agg cells)) w):wpList P ops Q (o::rest) a w :=
 wpList_build_is hgd t #[(k,x)] ho cells (by simpa[hx] using hf) h
structure St9 (w0 w:World) (s:Nat) (σ:AA Nd) (root:Int) (L:AO) (n:Nat) (b:Nat):Prop where
 own:Ow w0 w s σ (fun _=>False)
 db:Db σ root L
 room:σ.room=n
 total:total σ≤b
def Uj (l:List Pr):Bool:=decide (16<l.length)||l.any (fun x=>decide (1024<x.val.length))
def Gh (l:List Pr):List Value:=l.flatMap fun x=>x.cells.toList
def VW (l:List Pr):Prop:=∀x∈l,x.key.length=32
theorem K8 (l m:List Pr):Gh (l++m)=Gh l++Gh m:=by simp[Gh]
def RowP (w:World) (b:Nat) (v:Value) (l:List Pr):Prop:=w.ownsRow b 141 33 v l.length (Gh l)
variable {w w' : World} {b : Nat} {v : Value} {l : List Pr}
theorem RowP.form (h:RowP w b v l):∃ao cap,v=.slice ao l.length cap:=An h
theorem RowP.adds (h:RowP w b v l) (a:Adds w w'):RowP w' b v l:=a.owns h (fun _ _ h=>h)
theorem RowP.nil (w:World) (b:Nat):RowP w b (.slice none 0 0) []:=World.ownsRow_nil _ _ _ _
inductive Me:List Pr→List Pr→Prop
 | nil:Me [] []
 | new {l out:List Pr} {p:Pr} (h:Me l out) (hp:∀q∈out,q.key≠p.key):Me (l ++ [p]) (out ++ [p])
 | old {l out:List Pr} {p q:Pr} {i:Nat} (h:Me l out) (hq:out[i]?=some q) (hk:q.key=p.key):Me (l ++ [p]) (out.set i p)
end Go.Proofs.YtooijgcildbnlaaGreat.BW
namespace Go.Proofs.YtooijgcildbnlaaGreat
open Go.RowKit
section
variable {P : Program} {ops : Array Oper} {Q : Exit→Act→World→Prop} {md : Region.Mode} {S : World→Prop} {k : Nat}
def Vo (k:Nat) (S:World→Prop) (listed:Array Bool) (w:World):Prop:=listed.getD k false=true∨S w
def Re (P:Program) (md:Region.Mode) (ops:Array Oper) (Q:Exit→Act→World→Prop) (T:Array Bool→World→Prop) (n:Nat) (L:Array Bool→Act→World→Prop):Nat→Array Bool→Act→World→Prop
 | 0,listed,a,w=>L listed a w
 | f+1,listed,a,w =>
  Region.ready md ops listed ≠ []∧∀i∈Region.ready md ops listed,i<n∧wpOp P ops Q i (fun a' w'=>T (listed.setIfInBounds i true) w'∧Re P md ops Q T n L f (listed.setIfInBounds i true) a' w') a w
def K4 (P:Program) (l:List Oper) (Q:Exit→Act→World→Prop) (k:Nat) (S:World→Prop) (n:Nat):List (Nat×Nat)→Bool→Act→World→Prop
 | [],_,a,w=>wpList P l.toArray Q (l.drop n) a w
 | (i,0)::r,past,a,w=>∃o v,l[i]?=some o∧YieldsIf P l.toArray (fun _=>True) o v a∧K4 P l Q k S n r past (a.put o.dst v) w
 | (i,1)::r,past,a,w=>∃o v,l[i]?=some o∧YieldsIf P l.toArray S o v a∧K4 P l Q k S n r past (a.put o.dst v) w
 | (i,_+2)::r,past,a,w=>wpOp P l.toArray Q i (fun a' w'=>((past||i == k)=true∨S w')∧K4 P l Q k S n r (past||i == k) a' w') a w
def Tq (md:Region.Mode) (ops:Array Oper) (k i:Nat):Bool:=match ops[k]? with
 | none=>false
 | some o=>o.after.any (fun e=>Region.binds md e&&(e.on == i))
def LI (md:Region.Mode) (ops:Array Oper) (k n:Nat):List (Nat×Nat)→Array Bool→Bool
 | [],listed=>Region.seqB md ops (ops.size-n) n listed
 | (i,0)::r,listed=>decide (i<n)&&(i != k)&&(Region.ready md ops listed).contains i&&Region.free md ops listed i&&LI md ops k n r (listed.setIfInBounds i true)
 | (i,1)::r,listed=>decide (i<n)&&(i != k)&&Tq md ops k i&&(Region.ready md ops listed).contains i&&Region.free md ops listed i&&LI md ops k n r (listed.setIfInBounds i true)
 | (i,_+2)::r,listed=>decide (i<n)&&decide (Region.ready md ops listed = [i])&&LI md ops k n r (listed.setIfInBounds i true)
def UM (md:Region.Mode) (ops:Array Oper) (k n:Nat) (p:List (Nat×Nat)):Bool :=
 Region.noSelect ops&&decide (p.length=n)&&decide (n≤ops.size)&&Gr md ops n&&LI md ops k n p (Array.replicate ops.size false)
end
end Go.Proofs.YtooijgcildbnlaaGreat
namespace Go.Proofs.YtooijgcildbnlaaGreat.BW
open Go.RowKit Go.Proofs.YtooijgcildbnlaaGreat.ShaW Go.Proofs.YtooijgcildbnlaaGreat.Path Go.Proofs.YtooijgcildbnlaaGreat.Store
def pick (x:Int) (n:Nat):Int:=if Int.tmod x n<0 then Int.tmod x n+n else Int.tmod x n
def Vk (out:List Pr) (key:List UInt8) (j:Nat) (x:Int):Prop:=(x = -1∧∀i q,i<j→out[i]?=some q→q.key≠key)∨∃(i:Nat) (q:Pr),i<j∧x=(i:Int)∧out[i]?=some q∧q.key=key
theorem LB:(Tryz.prog.info? 141).map (·.size)=some 33:=by kernel_rfl
theorem Kh:∃i z,Tryz.prog.info? 141=some i∧i.zero=some z∧i.size=33∧i.bytes=56∧z.cells.size=33:=by
 obtain⟨i,h1,h2,h3,h4⟩:=info_parts (P:=Tryz.prog) (e:=141) (z:=.agg (List.replicate 32 (Value.int .u8 0) ++ [Value.slice none 0 0]).toArray) (size:=33) (bytes:=56) (by kernel_rfl);exact⟨i,_,h1,h2,h3,h4,rfl⟩
end Go.Proofs.YtooijgcildbnlaaGreat.BW
namespace Go.Proofs.YtooijgcildbnlaaGreat.BW
open Go.RowKit Go.Sort Go.Proofs.YtooijgcildbnlaaGreat.ShaW Go.Proofs.YtooijgcildbnlaaGreat.Path Go.Proofs.YtooijgcildbnlaaGreat.Store
structure PrK where
 p:Pr
 len:p.key.length=32
 one:p.vv.oneCell'=true
instance:Inhabited PrK:=⟨⟨⟨List.replicate 32 0,.slice none 0 0,[]⟩,rfl,rfl⟩⟩
def Vi (x:PrK):List Value:=x.p.cells.toList
def Vb (x y:PrK):Int:=Lib.compareBytes x.p.key y.p.key
theorem Np (w:World) (os:Array Obj) (q:Nat):(grow w os).drewN q=grow (w.drewN q) os:=rfl
end Go.Proofs.YtooijgcildbnlaaGreat.BW
namespace Go.Proofs.YtooijgcildbnlaaGreat.BW
open Go.RowKit Go.Proofs.YtooijgcildbnlaaGreat.ShaW Go.Proofs.YtooijgcildbnlaaGreat.Path Go.Proofs.YtooijgcildbnlaaGreat.Store
def TY (w:World) (ao:Option Addr) (len:Nat):Prop:=∀i,i<len→∃(g off:Nat) (x:Int),ao=some ⟨g,off,none⟩∧w.cell? ⟨g,off+i,none⟩=some (.int .i64 x)∧(Lit.int .i64 x).wf=true∧g<w.heap.size
end Go.Proofs.YtooijgcildbnlaaGreat.BW
namespace Go.Proofs.YtooijgcildbnlaaGreat.Store
open Go.RowKit Go.Proofs.YtooijgcildbnlaaGreat.Path Go.Maps
theorem Qn:laidOutB Tryz.prog=true:=by kernel_rfl
theorem SQ:Keyed Tryz.prog 24:=Keyed.of_law (deep_law_laid Qn (m:=2) (by omega) (of_decide_eq_true (by kernel_rfl)) (by kernel_rfl) (by kernel_rfl))
theorem QU:Tryz.prog.keyType 24=true:=by kernel_rfl
theorem QI:Tryz.prog.cellsOf 24=32:=by kernel_rfl
theorem SO:Tryz.prog.cellsOf 5=1:=by kernel_rfl
theorem OD {α β:Type} {f:α→Option β} {g:α→β}:∀(l:List α),(∀x∈l,f x=some (g x))→l.mapM f=some (l.map g)
 | [],_=>rfl
 | x::l,h=>by
  rw[List.mapM_cons,h x (by simp),OD l (fun y hy=>h y (by simp[hy]))];rfl
theorem JS (k:List UInt8) (hk:k.length=32):∃l,keyOf Tryz.prog 24 (.agg (AJ k))=some l:=by
 have hsz:(AJ k).size=32:=by simp[AJ,hk]
 have hf:Value.formed Tryz.prog 24 (.agg (AJ k))=true:=by
  unfold Value.formed;simp only[Tryz.underlying24,QI,hsz];rfl
 have hl:∀n,Tryz.prog.keyLits (n+2) 24 (AJ k).toList=some (((List.range 32).map fun i => [Lit.int .u8 ((k.getD i 0).toNat:Int)]).flatten):=fun n=>by
  unfold Program.keyLits;simp only[Tryz.underlying24];rw[if_pos (by rw[QI,Array.length_toList,hsz]),OD (g:=fun i => [Lit.int .u8 ((k.getD i 0).toNat:Int)])]
  · rfl
  intro i hi;have hi:i<32:=List.mem_range.1 hi
  have hg:((AJ k).toList.drop (i*Tryz.prog.cellsOf 5)).take (Tryz.prog.cellsOf 5) = [bv (k.getD i 0)]:=by
   rw[SO,Nat.mul_one];have h1:i<(AJ k).toList.length:=by rw[Array.length_toList,hsz];exact hi
   rw[List.drop_eq_getElem_cons h1];have:=Dd (l:=k) (i:=i) (by omega);rw[Array.getElem?_eq_getElem (by rw[hsz];exact hi)] at this;injection this with this;simp[this]
  rw[hg];unfold Program.keyLits;simp only[Tryz.underlying5,bv];have:=(k.getD i 0).toNat_lt;rw[if_pos ⟨trivial,WalkArith.wf_u8 ⟨by omega,by omega⟩⟩]
 unfold keyOf;simp only[Tryz.underlying24,QU,hf];obtain⟨m,hm⟩:∃m,Tryz.prog.types.size+1=m+2:=⟨Tryz.prog.types.size-1,by have:1≤Tryz.prog.types.size:=of_decide_eq_true (by kernel_rfl);omega⟩
 rw[hm];have e:=hl m
 show ∃l,Option.map _ (Tryz.prog.keyLits (m+2) 24 (AJ k).toList)=some l
 rw[e];exact⟨_,rfl⟩
noncomputable abbrev UU:Value→Option (DataW Value×List MemPlace):=plainElem Tryz.prog 4
noncomputable def kl (k:List UInt8):Lit:=if h:k.length=32 then Classical.choose (JS k h) else .bool false
theorem Hi {k:List UInt8} (hk:k.length=32):keyOf Tryz.prog 24 (.agg (AJ k))=some (kl k):=by
 unfold kl;rw[dif_pos hk];exact Classical.choose_spec (JS k hk)
theorem QV {a b:List UInt8} (h:AJ a=AJ b):a=b:=by
 have h2:a.map bv=b.map bv:=by have:=congrArg Array.toList h;simpa[AJ] using this
 refine List.map_inj_right (fun x y e=>?_) |>.1 h2;simp only[bv,Value.int.injEq,true_and] at e;exact UInt8.toNat_inj.1 (by omega)
theorem TP {a b:List UInt8} (ha:a.length=32) (hb:b.length=32) (h:kl a=kl b):a=b:=by
 have:=SQ.inj (Hi ha) (by rw[h];exact Hi hb);injection this with this;exact QV this
theorem RI {k:List UInt8} (hk:k.length=32):WideAt.IsKeyLit (kl k):=SQ.key (Hi hk)
def VU (w:World) (b n:Nat) (S:List (List UInt8)):Prop:=∃D,w.ownsMap Tryz.prog 24 UU b n D∧∀k:List UInt8,k.length=32→D.atKey (kl k) (.lit (.bool false))=.lit (.bool (decide (k∈S)))
end Go.Proofs.YtooijgcildbnlaaGreat.Store
namespace Go.Proofs.YtooijgcildbnlaaGreat.BW
open Go.RowKit Go.Sort Go.Proofs.YtooijgcildbnlaaGreat.ShaW Go.Proofs.YtooijgcildbnlaaGreat.Path Go.Proofs.YtooijgcildbnlaaGreat.Store
def Vc (a:Option Addr) (cap i:Nat):Option Addr:=if cap=i then a else a.map (·.add (i*33))
def NZ:Pr:=⟨List.replicate 32 0,.slice none 0 0,[]⟩
theorem MY:(Tryz.prog.info? 141).bind (·.zero)=some (.agg NZ.cells):=by kernel_rfl
def VJ (l:List Pr):Prop:=l.length≤4096∧(∀x∈l,x.val.length≤1024)∧(l.map (·.key)).Nodup
def seen (l:List Pr) (k:Nat):List (List UInt8):=((l.take k).map (·.key)).reverse
theorem Bu {P:Program} {S:World→Prop} {Q:Exit→Act→World→Prop} {l:List Oper} {n i:Nat} {r:List (Nat×Bool)} {a:Act} {w:World} {o:Oper} (ho:l[i]?=some o) (hw:Region.wanted o (yielded l.toArray a.tmps)=true) (ty:TypeId) (x:Operand) (hop:o.op=.load ty x) (g off k:Nat) (hx:a.eval x=.pointer (some ⟨g,off,none⟩))
 {t:TypeId} {cur:Array Value} {fr:Nat×Nat} {d:TypeDesc} (hg:∀w0,S w0→w0.heap[g]?=some (.cells cur t fr)) (hu:P.underlying ty=some d) (hd:d.isRow=true) (hi:(P.info? ty).map (·.size)=some k) (hfit:off+k≤cur.size) (cs:Array Value) (hv:cur.extract off (off+k)=cs)
 (h:BN P l Q S n r (a.put o.dst (.agg cs)) w):BN P l Q S n ((i,false)::r) a w :=
 plan_look ho hw (fun w0 hS=>by
  unfold execOp;simp only[hop,hx,Instr.loadAt,Instr.sureAddr,Sem.run_bind,Sem.run_pure,Result.andThen_ok,Bf w0 (hg w0 hS) hu hd hi hfit,hv]) h
theorem JZ {w:World} {ao:Option Addr} {l:List Wm} (cap:Nat) (h:CB w ao l) (hn:l.length≤4096) (d:Nat) (hd:d<256) :
 Calls Tryz.prog 256 #[.slice ao l.length cap,.int .i64 (d:Int)] w fun e w'=>Adds w w'∧∃n:Nat,e=.returned (.int .i64 n)∧n≤l.length∧(∀i x,i<n→l[i]?=some x→AP x.key d=0)∧(∀x,l[n]?=some x→AP x.key d=1):=by
 obtain⟨len,hlen⟩:∃len,len=l.length:=⟨_,rfl⟩
 rw[←hlen] at hn ⊢;have HL:=Lib.hid hlen;have HP:=Lib.hid h;have HD:=Lib.hid hd;clear h hlen hd;go_enter Tryz.func256,Tryz.ntmps256;go_wp2;go_loopg [5] len (fun g s5 wr=>∃k:Nat,s5=.int .i64 k∧k+g=len∧(∀i x,i<k→l[i]?=some x→AP x.key d=0)∧Adds w wr)
 case atStart=>exact⟨0,rfl,by omega,fun i x hi=>absurd hi (Nat.not_lt_zero _),Ch.refl _ _⟩
 obtain⟨k,rfl,hk,h0,hA⟩:=hrel;have HA:=Lib.hid hA;have H0:=Lib.hid h0;have HKG:=Lib.hid hk;clear hA h0;by_cases hkl:k=len
 · have hx1:decide ((k:Int)<(len:Int))=false:=decide_eq_false (by omega)
   have hx1':decide (k<len)=false:=decide_eq_false (by omega);have HKL:=Lib.hid hkl;clear hk hkl;go_wp2;go_ret
   exact⟨HA.out,k,rfl,by have:=HKL.out;omega,H0.out,fun x hx=>by
    have:=(List.getElem?_eq_some_iff.1 hx).1;have:=HKL.out;have:=HL.out;omega⟩
 have hx1:decide ((k:Int)<(len:Int))=true:=decide_eq_true (by omega);have hx1':decide (k<len)=true:=decide_eq_true (by omega);have hkl':k<l.length:=by have:=HL.out;omega
 have hklen:(k:Int)<(len:Int):=by omega
 have hklen':k<len:=by omega
 obtain⟨x,hx⟩:∃x,l[k]?=some x:=⟨_,List.getElem?_eq_getElem hkl'⟩
 obtain⟨g0,off,rfl,hp⟩:=HP.out.row k x hx;have hg:=HP.out.good x (List.mem_of_getElem? hx);have hsz:=Wm.size hg.key;obtain⟨cur,ty,fr,c1,c2,c3⟩:=hp;rw[hsz] at c2 c3;obtain⟨ck,_⟩:=Mk hg.key c3;have hb:=Ff x.key hg.key d wr;rw[Cu HD.out] at hb;obtain⟨K,hK⟩:∃K,K=AJ x.key:=⟨_,rfl⟩
 rw[←hK] at ck hb;have HC:=(hIq (HA.out.row c1 id) (aIq c2 ck))
 have HX:=Lib.hid hx;have HB:=Lib.hid hb;have hlt:=Aj x.key d;obtain⟨b,hbb⟩:∃b,b=AP x.key d:=⟨_,rfl⟩
 rw[←hbb] at hlt HB;have HBB:=Lib.hid hbb;clear hk hkl hg hsz c1 c2 c3 ck hK hx hb hbb;rcases hlt with rfl|rfl
 · go_wp2_with (first
    | fail
    | ((with_reducible show zOq (.load 24 _));refine AF rfl 24 _ rfl g0 (off+k*34) rfl HC.out.1 Tryz.underlying24 rfl AV (by have:=HC.out.2.1;omega) K HC.out.2.2 ?_)
    | ((with_reducible show zOq (.load 24 _));refine A6 (by first|rfl|(simp[Region.wanted];done)) 24 _ rfl g0 (off+k*34) rfl HC.out.1 Tryz.underlying24 rfl AV (by have:=HC.out.2.1;omega) K HC.out.2.2 ?_))
   refine HB.out.mono ?_;rintro e w2 ⟨rfl,a2⟩;have A2:=Lib.hid (HA.out.trans a2 (fun _=>fEq));clear a2;go_wp2;go_roundg (gk-1)
   case measure=>have:=HKG.out;omega
   exact⟨k+1,rfl,by have:=HKG.out;omega,fun i y hi hy=>by
    rcases Nat.lt_or_ge i k with h|h
    · exact H0.out i y h hy
    have:i=k:=by omega
    subst this;have hx:=HX.out;rw[hx] at hy;cases hy;exact HBB.out.symm,A2.out⟩
 go_wp2_with (first
  | fail
  | ((with_reducible show zOq (.load 24 _));refine AF rfl 24 _ rfl g0 (off+k*34) rfl HC.out.1 Tryz.underlying24 rfl AV (by have:=HC.out.2.1;omega) K HC.out.2.2 ?_)
  | ((with_reducible show zOq (.load 24 _));refine A6 (by first|rfl|(simp[Region.wanted];done)) 24 _ rfl g0 (off+k*34) rfl HC.out.1 Tryz.underlying24 rfl AV (by have:=HC.out.2.1;omega) K HC.out.2.2 ?_))
 refine HB.out.mono ?_;rintro e w2 ⟨rfl,a2⟩;have A2:=Lib.hid (HA.out.trans a2 (fun _=>fEq));clear a2;go_wp2;go_ret
 exact⟨A2.out,k,rfl,by omega,H0.out,fun y hy=>by
  have hx:=HX.out;rw[hx] at hy;cases hy;exact HBB.out.symm⟩
section
variable {w0 w : World} {s : Nat} {σ : AA Nd} {G : Nat→Prop}
theorem LD (h:Ow w0 w s σ G) (n:Int):Calls Tryz.prog 253 #[.pointer (some ⟨s,0,none⟩),.int .i64 n] w fun e w'=>e=.returned (.int .i64 n)∧Ow w0 w' s (Ah σ n) G∧But G w w':=by
 by_cases h0:n=0
 · have e:Ah σ n=σ:=by unfold Ah;rw[if_neg (by simpa using h0)]
   rw[e];have H:=Lib.hid h;clear h e;go_enter Tryz.func253,Tryz.ntmps253;go_wp2;go_ret;exact⟨rfl,H.out,Ch.refl _ _⟩
 have e:Ah σ n=(Ar σ n).2:=by unfold Ah;rw[if_pos h0]
 rw[e];have HO:=Lib.hid (h.hold n);clear h e;go_enter Tryz.func253,Tryz.ntmps253;go_wp2_with fail;refine HO.out.mono ?_;rintro e w1 ⟨rfl,o1,b1⟩;have H1:=(hIq o1 b1)
 clear o1 b1;go_wp2;go_ret;exact⟨rfl,H1.out⟩
theorem KU (h:Ow w0 w s σ G) (d l r:Int):Calls Tryz.prog 257 #[.pointer (some ⟨s,0,none⟩),.int .i64 d,.int .i64 l,.int .i64 r] w fun e w'=>e=.returned (.int .i64 (Fs σ d l r).1)∧Ow w0 w' s (Fs σ d l r).2 G∧But G w w':=by
 obtain⟨F,hAt⟩:=h.at;have hkl:=fun w1 (a:Adds w w1) n=>EJ (hAt.adds a) n
 have hin:=fun w1 (a:Adds w w1)=>(h.adds a).inner d l r
 have hz:(nd σ 0).kind=0:=rfl;have H:=Lib.hid h;have HK:=Lib.hid hkl;have HI:=Lib.hid hin;obtain⟨kr,hkr⟩:∃k,k=(nd σ r).kind:=⟨_,rfl⟩
 obtain⟨kl,hkl2⟩:∃k,k=(nd σ l).kind:=⟨_,rfl⟩
 have HKR:=(hIq hkr hkl2)
 unfold Fs;rw[←hkr, ←hkl2];by_cases h1:l=0
 · subst h1
   by_cases h2:kr=2
   · have hr:¬r=0:=fun e=>by rw[e,hz] at hkr;omega
     rw[if_neg (fun h=>h.2 h2),if_neg (fun h=>hr h.1)];have t2:((kr:Nat):Int)=2:=by omega
     clear h hkl hin hz hkr hkl2 hAt h2;go_enter Tryz.func257,Tryz.ntmps257;go_wp2_with fail;refine(HK.out w (Ch.refl _ _) r).mono ?_;rintro e w1 ⟨rfl,a1⟩;rw[←HKR.out.1,t2];have A1:=Lib.hid a1;clear a1;go_wp2_with fail;refine(HI.out _ A1.out).mono ?_;rintro e w2 ⟨rfl,o2,b2⟩;have H2:=(hIq o2 ((Adds.but A1.out).then b2))
     clear o2 b2;go_wp2;go_ret;exact⟨rfl,H2.out⟩
   rw[if_pos ⟨rfl,h2⟩];have t2:¬((kr:Nat):Int)=2:=by omega
   clear h hkl hin hz hkr hkl2 hAt h2;go_enter Tryz.func257,Tryz.ntmps257;go_wp2_with fail;refine(HK.out w (Ch.refl _ _) r).mono ?_;rintro e w1 ⟨rfl,a1⟩;rw[←HKR.out.1];have A1:=Lib.hid a1;clear a1;go_wp2;go_ret;exact⟨rfl,H.out.adds A1.out,Adds.but A1.out⟩
 rw[if_neg (fun h=>h1 h.1)];by_cases h0:r=0
 · subst h0
   by_cases h2:kl=2
   · rw[if_neg (fun h=>h.2 h2)]
     have t2:((kl:Nat):Int)=2:=by omega
     clear h hkl hin hz hkr hkl2 hAt h2;go_enter Tryz.func257,Tryz.ntmps257;go_wp2_with fail;refine(HK.out w (Ch.refl _ _) l).mono ?_;rintro e w1 ⟨rfl,a1⟩;rw[←HKR.out.2,t2];have A1:=Lib.hid a1;clear a1;go_wp2_with fail;refine(HI.out _ A1.out).mono ?_;rintro e w2 ⟨rfl,o2,b2⟩;have H2:=(hIq o2 ((Adds.but A1.out).then b2))
     clear o2 b2;go_wp2;go_ret;exact⟨rfl,H2.out⟩
   rw[if_pos ⟨rfl,h2⟩];have t2:¬((kl:Nat):Int)=2:=by omega
   clear h hkl hin hz hkr hkl2 hAt h2;go_enter Tryz.func257,Tryz.ntmps257;go_wp2_with fail;refine(HK.out w (Ch.refl _ _) l).mono ?_;rintro e w1 ⟨rfl,a1⟩;rw[←HKR.out.2];have A1:=Lib.hid a1;clear a1;go_wp2;go_ret;exact⟨rfl,H.out.adds A1.out,Adds.but A1.out⟩
 rw[if_neg (fun h=>h0 h.1)];clear h hkl hin hz hkr hkl2 hAt;go_enter Tryz.func257,Tryz.ntmps257;go_wp2_with fail;refine(HI.out _ (Ch.refl _ _)).mono ?_;rintro e w2 ⟨rfl,o2,b2⟩;have H2:=(hIq o2 b2)
 clear o2 b2;go_wp2;go_ret;exact⟨rfl,H2.out⟩
end
end Go.Proofs.YtooijgcildbnlaaGreat.BW
namespace Go.Proofs.YtooijgcildbnlaaGreat.Store
open Go.RowKit
theorem Bs {P:Program} {C:Code} {Q:Exit→Act→World→Prop} {a:Act} {w:World} (h:∀w0,w0=w→C.wp P Q a w0):C.wp P Q a w:=h w rfl
theorem MB {P:Program} (w:World) (t e:TypeId) (ie:TypeInfo) (z v u:Value) (hu:P.underlying t=some (.slice e)) (hie:P.info? e=some ie) (hz:ie.zero=some z) (hsmall:ie.size≤65536) (hpos:0<ie.size) (hv:v.cells.size=ie.size) (hu2:u.cells.size=ie.size) :
 (Instr.buildSlice t 2 #[(0,v),(1,u)]).run P w=.ok (.slice (some ⟨w.heap.size,0,none⟩) 2 2) (w.alloc (.cells (v.cells++u.cells) e)):=by
 refine run_buildSlice w t e 2 #[(0,v),(1,u)] (v.cells++u.cells) ie z hu hie hz (by omega) (by omega) ?_
 show Instr.fill _ _ [(0,v),(1,u)]=_
 rw[Af (off:=0) (size:=ie.size) (by simp) hv (by simp;omega)];rw[Af (off:=ie.size) (size:=ie.size) (by simp) hu2 (by simp[splice,hv];omega)];simp only[Instr.fill,splice,Option.some.injEq];apply Array.ext';simp[hv,hu2];omega
theorem I4 {P:Program} {w:World} {ops:Array Oper} {rest:List Oper} {o:Oper} {a:Act} {Q:Exit→Act→World→Prop} (hgd:o.guard=none) (t:TypeId) (x y:Operand) (ho:o.op=.buildSlice t 2 #[(0,x),(1,y)])
 (e:TypeId) (ie:TypeInfo) (z v u:Value) (hx:a.eval x=v) (hy:a.eval y=u) (hu:P.underlying t=some (.slice e)) (hie:P.info? e=some ie) (hz:ie.zero=some z) (hsmall:ie.size≤65536) (hpos:0<ie.size) (hv:v.cells.size=ie.size) (hu2:u.cells.size=ie.size)
 (h:wpList P ops Q rest (a.put o.dst (.slice (some ⟨w.heap.size,0,none⟩) 2 2)) (w.alloc (.cells (v.cells++u.cells) e))):wpList P ops Q (o::rest) a w :=
 wpList_plain hgd fun _ hK=>by
  unfold Oper.wp execOp;have:=MB w t e ie z v u hu hie hz hsmall hpos hv hu2;simp only[ho,List.map_toArray,List.map_cons,List.map_nil,hx,hy,Sem.run_bind,this,Result.andThen_ok];exact hK _ _ h
theorem J0 {A B C Z:List Value} {n:Nat} (hA:A.length=n) (hB:B.length=n) (hC:C.length=n) (hZ:Z.length=3*n) :
 List.take (2*n) (A++(B++List.drop (n+n) (A++List.drop n Z)))++(C++List.drop (2*n+n) (A++(B++List.drop (n+n) (A++List.drop n Z))))=A++(B++C):=by
 have e1:List.drop (n+n) (A++List.drop n Z)=List.drop (2*n) Z:=by
  rw[List.drop_append,List.drop_eq_nil_of_le (by omega),hA,List.nil_append,List.drop_drop]
  congr 1
  omega
 rw[e1, ←List.append_assoc A B,List.take_left' (by rw[List.length_append];omega),List.drop_eq_nil_of_le (by simp only[List.length_append,List.length_drop];omega),List.append_nil,List.append_assoc]
theorem MF {P:Program} (w:World) (t e:TypeId) (ie:TypeInfo) (z v u x:Value) (hu:P.underlying t=some (.slice e)) (hie:P.info? e=some ie) (hz:ie.zero=some z) (hsmall:ie.size≤65536) (hpos:0<ie.size) (hv:v.cells.size=ie.size) (hu2:u.cells.size=ie.size) (hx2:x.cells.size=ie.size) :
 (Instr.buildSlice t 3 #[(0,v),(1,u),(2,x)]).run P w=.ok (.slice (some ⟨w.heap.size,0,none⟩) 3 3) (w.alloc (.cells (v.cells++u.cells++x.cells) e)):=by
 refine run_buildSlice w t e 3 #[(0,v),(1,u),(2,x)] (v.cells++u.cells++x.cells) ie z hu hie hz (by omega) (by omega) ?_
 show Instr.fill _ _ [(0,v),(1,u),(2,x)]=_
 rw[Af (off:=0) (size:=ie.size) (by simp) hv (by simp;omega)];rw[Af (off:=ie.size) (size:=ie.size) (by simp) hu2 (by simp[splice,hv];omega)];rw[Af (off:=2*ie.size) (size:=ie.size) (by simp) hx2 (by simp[splice,hv,hu2];omega)];simp only[Instr.fill,splice,Option.some.injEq];apply Array.ext';simp[hv,hu2,hx2];exact J0 (by simp[hv]) (by simp[hu2]) (by simp[hx2]) (by simp)
theorem Ju {P:Program} {w:World} {ops:Array Oper} {rest:List Oper} {o:Oper} {a:Act} {Q:Exit→Act→World→Prop} (hgd:o.guard=none) (t:TypeId) (x y q:Operand) (ho:o.op=.buildSlice t 3 #[(0,x),(1,y),(2,q)])
 (e:TypeId) (ie:TypeInfo) (z v u r:Value) (hx:a.eval x=v) (hy:a.eval y=u) (hq:a.eval q=r) (hu:P.underlying t=some (.slice e)) (hie:P.info? e=some ie) (hz:ie.zero=some z) (hsmall:ie.size≤65536) (hpos:0<ie.size) (hv:v.cells.size=ie.size) (hu2:u.cells.size=ie.size) (hr2:r.cells.size=ie.size)
 (h:wpList P ops Q rest (a.put o.dst (.slice (some ⟨w.heap.size,0,none⟩) 3 3)) (w.alloc (.cells (v.cells++u.cells++r.cells) e))):wpList P ops Q (o::rest) a w :=
 wpList_plain hgd fun _ hK=>by
  unfold Oper.wp execOp;have:=MF w t e ie z v u r hu hie hz hsmall hpos hv hu2 hr2;simp only[ho,List.map_toArray,List.map_cons,List.map_nil,hx,hy,hq,Sem.run_bind,this,Result.andThen_ok];exact hK _ _ h
end Go.Proofs.YtooijgcildbnlaaGreat.Store
