/- Laws of the layers below. -/
import Derived.Test.YtooijgcildbnlaaGreatQi12
import Derived.Test.YtooijgcildbnlaaGreatQi19
import Derived.Shelf.SlSortCmp.WholeK
import Derived.Shelf.SlSortCmp.NoneTotal
import Derived.Test.YtooijgcildbnlaaGreatChecked
import Derived.Laws.Externs
import Derived.Sort.Grow
import Derived.Maps.OwnOps
import Derived.Maps.OwnSet
import Derived.DeepKeys4
import Derived.WalkArith
set_option maxHeartbeats 3200000
set_option maxRecDepth 100000
set_option linter.unusedVariables false
namespace Go.Proofs.YtooijgcildbnlaaGreat.BC
open Go.RowKit Go.Proofs.YtooijgcildbnlaaGreat.ShaW Go.Proofs.YtooijgcildbnlaaGreat.Path Go.Proofs.YtooijgcildbnlaaGreat.Store
structure Wm where
 key:List UInt8
 gone:Bool
 vv:Value
 val:List UInt8
instance:Inhabited Wm:=⟨⟨[],false,.slice none 0 0,[]⟩⟩
def Wm.cells (x:Wm):Array Value:=(x.key.map bv ++ [.bool x.gone,x.vv]).toArray
def Wm.ent (x:Wm):List UInt8×List UInt8:=(x.key,x.val)
def Wm.wp (x:Wm):List UInt8×Option (List UInt8):=(x.key,if x.gone then none else some x.val)
structure Wm.Good (w:World) (x:Wm):Prop where
 key:x.key.length=32
 val:Bytes w x.vv x.val
 blk:x.val ≠ []→∀k,x.vv.ownBlock=some k→k<w.heap.size
theorem Wm.Good.AZ {F:Nat→Prop} {w w':World} {x:Wm} (h:x.Good w) (hc:Ch F w w') (hF:∀k,F k→w.heap.size≤k):x.Good w' :=
 ⟨h.key,h.val.Ji hc (fun h0 k hk hf=>by have:=h.blk h0 k hk;have:=hF k hf;omega),fun h0 k hk=>Nat.lt_of_lt_of_le (h.blk h0 k hk) hc.size⟩
section
variable {x : Wm} (h : x.key.length=32)
include h
theorem Wm.size:x.cells.size=34:=by simp[Wm.cells,h]
omit h in
theorem Wm.list:x.cells.toList=x.key.map bv ++ [.bool x.gone,x.vv]:=rfl
theorem Wm.BJ:x.cells.extract 0 (0+32)=AJ x.key:=by
 apply Array.ext';simp only[Array.toList_extract,List.extract,Wm.list,AJ,List.drop_zero];rw[List.take_append_of_le_length (by simp[h]),List.take_of_length_le (by simp[h])]
theorem Wm.KM:x.cells[32]?=some (.bool x.gone):=by
 rw[←Array.getElem?_toList,Wm.list,List.getElem?_append_right (by simp[h])];simp[h]
theorem Wm.Fv:x.cells[33]?=some x.vv:=by
 rw[←Array.getElem?_toList,Wm.list,List.getElem?_append_right (by simp[h])];simp[h]
theorem Nk {cur:Array Value} {o:Nat} (c3:cur.extract o (o+34)=x.cells):cur.extract o (o+32)=AJ x.key∧cur[o+32]?=some (.bool x.gone)∧cur[o+33]?=some x.vv:=by
 have hs:=Wm.size h;have h':cur.extract o (o+x.cells.size)=x.cells:=by rw[hs];exact c3
 exact⟨SV h' (by rw[hs];omega) (Wm.BJ h),O5 h' (Wm.KM h),O5 h' (Wm.Fv h)⟩
end
theorem Wm.one {w:World} {x:Wm} (h:x.Good w):∀v∈x.cells.toList,v.oneCell'=true:=fun v hv=>by
 rw[Wm.list,List.mem_append,List.mem_map] at hv;rcases hv with⟨b,_,rfl⟩|hv
 · rfl
 obtain⟨ao,cap,e,_⟩:=h.val.form;simp at hv;rcases hv with rfl|rfl
 · rfl
 rw[e];rfl
structure CR (w:World) (ao:Option Addr) (l:List Wm):Prop where
 good:∀x∈l,x.Good w
 row:D9 34 Wm.cells w ao l
section
variable {w w' : World} {ao : Option Addr} {l : List Wm}
theorem CR.AZ {F:Nat→Prop} (h:CR w ao l) (hc:Ch F w w') (hF:∀k,F k→w.heap.size≤k):CR w' ao l:=⟨fun x hx=>(h.good x hx).AZ hc hF,h.row.AZ hc hF⟩
theorem CR.adds (h:CR w ao l) (a:Adds w w'):CR w' ao l:=h.AZ a (fun _=>fEq)
theorem CR.take (h:CR w ao l) (n:Nat):CR w ao (l.take n):=⟨fun x hx=>h.good x (List.mem_of_mem_take hx),h.row.take n⟩
theorem CR.drop (h:CR w ao l) (n cap:Nat) (hc:l.length≤cap):CR w (Of 34 ao cap n) (l.drop n):=⟨fun x hx=>h.good x (List.mem_of_mem_drop hx),h.row.drop n cap hc⟩
theorem CR.nil (w:World) (ao:Option Addr):CR w ao []:=⟨fun x hx=>(by cases hx),fun i x hi=>(by simp at hi)⟩
end
theorem XK:(Tryz.prog.info? (Tryz.prog.elem 199)).map (·.size)=some 34:=by kernel_rfl
theorem ES:(Tryz.prog.info? 203).map (·.size)=some 34:=by kernel_rfl
theorem KO:Tryz.prog.underlying 199=some (.slice (Tryz.prog.elem 199)):=by kernel_rfl
theorem O3 (w:World):(sizeOf (Tryz.prog.elem 199)).run Tryz.prog w=.ok 34 w:=by
 have hs:=XK;cases hq:Tryz.prog.info? (Tryz.prog.elem 199) with
 | none=>rw[hq] at hs;cases hs
 | some inf =>
  rw[hq] at hs;have hs':inf.size=34:=by simpa using hs
  simp[sizeOf,typeInfo,hq,hs']
theorem OD (w:World) (ao:Option Addr) (len cap i:Nat) (hi:i≤len) :
 (Instr.sliceAt 199 (.slice ao len cap) (some (.int .i64 (i:Int))) none none).run Tryz.prog w=.ok (.slice (Of 34 ao cap i) (len-i) (cap-i)) w:=by
 rw[run_sliceAt_slice w _ _ _ _ _ KO,run_slice_l w _ ao len cap KO .i64 (i:Int) (by omega) (by omega)];simp only[O3 w,Result.andThen_ok,sliced,Int.toNat_natCast];rfl
theorem PA (w:World) (ao:Option Addr) (len cap i:Nat) (hi:i≤cap) :
 (Instr.sliceAt 199 (.slice ao len cap) none (some (.int .i64 (i:Int))) none).run Tryz.prog w=.ok (.slice ao i cap) w:=by
 rw[run_sliceAt_slice w _ _ _ _ _ KO,run_slice_h w _ ao len cap KO .i64 (i:Int) (by omega) (by omega)]
 have e:(Value.slice (if cap=0 then ao else ao.map (·.add (0*34))) (i-0) (cap-0))=.slice ao i cap:=by
  rw[Nat.zero_mul,Nat.sub_zero,Nat.sub_zero]
  congr 1
  split
  · rfl
  cases ao<;>rfl
 simp only[O3 w,Result.andThen_ok,sliced,Int.toNat_natCast,e]
end Go.Proofs.YtooijgcildbnlaaGreat.BC
namespace Go.Proofs.YtooijgcildbnlaaGreat
open Go.Shelf
def Lz:Go.Shelf.Ren:=⟨fun|6=>273|15=>288|14=>298|28=>310|29=>311|20=>325|21=>326|22=>327|23=>328|24=>329|25=>330|26=>331|27=>332|46=>344|47=>335|48=>336|49=>345|50=>346|57=>349|n=>n,fun|22=>33|24=>141|25=>361|3=>3|39=>358|0=>0|53=>349|55=>356|4=>4|46=>390|45=>389|50=>296|5=>5|9=>9|66=>410|70=>414|76=>421|77=>244|n=>n,fun|n=>n⟩
theorem Mn:Go.Proofs.SlLaysF0.n6 Tryz.prog Lz := {
 mixed:=by kernel_rfl
 f6:=⟨Tryz.f273.name,by decide,Tryz.func273.trans (congrArg some (by kernel_rfl))⟩
 f14:=⟨Tryz.f298.name,by decide,Tryz.func298.trans (congrArg some (by kernel_rfl))⟩
 f15:=Tryz.func288.trans (congrArg some (by kernel_rfl))
 f20:=⟨Tryz.f325.name,by decide,Tryz.func325.trans (congrArg some (by kernel_rfl))⟩
 f21:=⟨Tryz.f326.name,by decide,Tryz.func326.trans (congrArg some (by kernel_rfl))⟩
 f22:=⟨Tryz.f327.name,by decide,Tryz.func327.trans (congrArg some (by kernel_rfl))⟩
 f23:=⟨Tryz.f328.name,by decide,Tryz.func328.trans (congrArg some (by kernel_rfl))⟩
 f24:=⟨Tryz.f329.name,by decide,Tryz.func329.trans (congrArg some (by kernel_rfl))⟩
 f25:=⟨Tryz.f330.name,by decide,Tryz.func330.trans (congrArg some (by kernel_rfl))⟩
 f26:=⟨Tryz.f331.name,by decide,Tryz.func331.trans (congrArg some (by kernel_rfl))⟩
 f27:=⟨Tryz.f332.name,by decide,Tryz.func332.trans (congrArg some (by kernel_rfl))⟩
 f28:=Tryz.func310.trans (congrArg some (by kernel_rfl))
 f29:=Tryz.func311.trans (congrArg some (by kernel_rfl))
 f46:=⟨Tryz.f344.name,by decide,Tryz.func344.trans (congrArg some (by kernel_rfl))⟩
 f47:=Tryz.func335.trans (congrArg some (by kernel_rfl))
 f48:=Tryz.func336.trans (congrArg some (by kernel_rfl))
 f49:=⟨Tryz.f345.name,by decide,Tryz.func345.trans (congrArg some (by kernel_rfl))⟩
 f50:=⟨Tryz.f346.name,by decide,Tryz.func346.trans (congrArg some (by kernel_rfl))⟩
 f57:=⟨Tryz.f349.name,by decide,Tryz.func349.trans (congrArg some (by kernel_rfl))⟩
 t0:=Tryz.underlying0
 a0:=Tryz.isAgg0
 z0:=Tryz.sizeOf0
 v0:=Tryz.zeroValue0
 t3:=Tryz.underlying3
 a3:=Tryz.isAgg3
 z3:=Tryz.sizeOf3
 v3:=Tryz.zeroValue3
 t4:=Tryz.underlying4
 a4:=Tryz.isAgg4
 z4:=Tryz.sizeOf4
 v4:=Tryz.zeroValue4
 t5:=Tryz.underlying5
 a5:=Tryz.isAgg5
 z5:=Tryz.sizeOf5
 v5:=Tryz.zeroValue5
 t9:=Tryz.underlying9
 a9:=Tryz.isAgg9
 z9:=Tryz.sizeOf9
 v9:=Tryz.zeroValue9
 t22:=Tryz.underlying33
 a22:=Tryz.isAgg33
 z22:=Tryz.sizeOf33
 v22:=Tryz.zeroValue33
 t25:=Tryz.underlying361
 a25:=Tryz.isAgg361
 z25:=Tryz.sizeOf361
 v25:=Tryz.zeroValue361
 t39:=Tryz.underlying358
 a39:=Tryz.isAgg358
 z39:=Tryz.sizeOf358
 v39:=Tryz.zeroValue358
 t45:=Tryz.underlying389
 a45:=Tryz.isAgg389
 z45:=Tryz.sizeOf389
 v45:=Tryz.zeroValue389
 t46:=Tryz.underlying390
 a46:=Tryz.isAgg390
 z46:=Tryz.sizeOf390
 v46:=Tryz.zeroValue390
 t50:=Tryz.underlying296
 a50:=Tryz.isAgg296
 z50:=Tryz.sizeOf296
 v50:=Tryz.zeroValue296
 t53:=Tryz.underlying349
 a53:=Tryz.isAgg349
 z53:=Tryz.sizeOf349
 v53:=Tryz.zeroValue349
 t55:=Tryz.underlying356
 a55:=Tryz.isAgg356
 z55:=Tryz.sizeOf356
 v55:=Tryz.zeroValue356
 t66:=Tryz.underlying410
 a66:=Tryz.isAgg410
 z66:=Tryz.sizeOf410
 v66:=Tryz.zeroValue410
 t70:=Tryz.underlying414
 a70:=Tryz.isAgg414
 z70:=Tryz.sizeOf414
 v70:=Tryz.zeroValue414
 t76:=Tryz.underlying421
 a76:=Tryz.isAgg421
 z76:=Tryz.sizeOf421
 v76:=Tryz.zeroValue421
 t77:=Tryz.underlying244
 a77:=Tryz.isAgg244
 z77:=Tryz.sizeOf244
 v77:=Tryz.zeroValue244 }
end Go.Proofs.YtooijgcildbnlaaGreat
namespace Go.Proofs.YtooijgcildbnlaaGreat.Path
open Go.RowKit Go.Sort
theorem JJ (a b:ByteArray) (w:World):Calls Tryz.prog 299 #[.string a,.string b] w fun e w'=>e=.returned (.int .i64 (Lib.compareBytes a.data.toList b.data.toList))∧w=w':=by
 go_enter Tryz.func299,Tryz.ntmps299;go_wp2;rw[run_callFunc_extern Tryz.func333 (by kernel_rfl) (by kernel_rfl) (by kernel_rfl) (e:=Extern.BytealgCompare.compare) (by kernel_rfl),Lib.run_compareString];simp only[Result.andThen];rw[Oper.upon_value];go_wp2;go_ret;exact⟨rfl,rfl⟩
theorem Lj (a b:ByteArray) (w:World):Calls Tryz.prog 282 #[.string a,.string b] w fun e w'=>e=.returned (.int .i64 (Lib.compareBytes a.data.toList b.data.toList))∧w=w':=by
 have h:=JJ a b w;generalize Lib.compareBytes a.data.toList b.data.toList=r at h ⊢;go_enter Tryz.func282,Tryz.ntmps282;go_wp2_with fail;refine h.mono ?_;rintro e w1 ⟨rfl,rfl⟩;go_wp2;go_ret;exact⟨rfl,rfl⟩
def Dh (x:List UInt8):List Int:=x.map fun b=>(b.toNat:Int)
theorem Kd (x:List UInt8):(strOfNums (Dh x)).data.toList=x:=by
 rw[strOfNums_data];unfold Dh;rw[List.map_map]
 conv=>rhs;rw[←List.map_id x]
 refine List.map_congr_left fun b _=>?_
 simp
theorem Ls {w:World} {g1 g2 c1 c2:Nat} {t1 t2:TypeId} {f1 f2:Nat×Nat} (x y:List UInt8) (hx:w.heap[g1]?=some (.cells (AJ x) t1 f1)) (hy:w.heap[g2]?=some (.cells (AJ y) t2 f2)) :
 Calls Tryz.prog 231 #[.slice (some ⟨g1,0,none⟩) x.length c1,.slice (some ⟨g2,0,none⟩) y.length c2] w fun e w'=>e=.returned (.int .i64 (Lib.compareBytes x y))∧w=w':=by
 have get:∀(z:List UInt8) (i:Nat),i<z.length→(AJ z)[i]?=some (.int .u8 ((Dh z).getD i 0)):=fun z i hi=>by
  rw[D7 hi];simp[Dh,bv,hi]
 have r1:(convert 73 9 (.slice (some ⟨g1,0,none⟩) x.length c1)).run Tryz.prog w=.ok (.string (strOfNums (Dh x))) w :=
  run_convert_bytes_arg w _ _ Tryz.underlying73 Tryz.underlying5 g1 0 x.length c1 (Dh x) (by simp[Dh]) (fun i hi=>by rw[Nat.zero_add];exact AF hx (get x i hi)) _ Tryz.underlying9
 have r2:(convert 73 9 (.slice (some ⟨g2,0,none⟩) y.length c2)).run Tryz.prog w=.ok (.string (strOfNums (Dh y))) w :=
  run_convert_bytes_arg w _ _ Tryz.underlying73 Tryz.underlying5 g2 0 y.length c2 (Dh y) (by simp[Dh]) (fun i hi=>by rw[Nat.zero_add];exact AF hy (get y i hi)) _ Tryz.underlying9
 have h:=Lj (strOfNums (Dh x)) (strOfNums (Dh y)) w;rw[Kd,Kd] at h;generalize Lib.compareBytes x y=r at h ⊢;generalize strOfNums (Dh x)=s1 at r1 h;generalize strOfNums (Dh y)=s2 at r2 h;clear get hx hy;go_enter Tryz.func231,Tryz.ntmps231;go_wp2_with fail;refine h.mono ?_;rintro e w1 ⟨rfl,rfl⟩;go_wp2;go_ret;exact⟨rfl,rfl⟩
theorem IB (a b:List UInt8) (ha:a.length=32) (hb:b.length=32) (w:World) :
 Calls Tryz.prog 159 #[.agg (AJ a),.agg (AJ b)] w fun e w'=>e=.returned (.int .i64 (Lib.compareBytes a b))∧∃q os,w'=grow (w.drewN q) os:=by
 obtain⟨A,hA⟩:∃A,A=AJ a:=⟨_,rfl⟩
 obtain⟨B,hB⟩:∃B,B=AJ b:=⟨_,rfl⟩
 have g1:((w.alloc (.cells A 24)).alloc (.cells B 24)).drew.heap[w.heap.size]?=some (.cells A 24 (0,0)):=AQ (AH (heap_alloc_new _ _) _)
 have g2:((w.alloc (.cells A 24)).alloc (.cells B 24)).drew.heap[w.heap.size+1]?=some (.cells B 24 (0,0)):=by
  have:=heap_alloc_new (w.alloc (.cells A 24)) (.cells B 24);exact AQ (by simpa using this)
 have h:=Ls (c1:=32) (c2:=32) a b (by rw[←hA];exact g1) (by rw[←hB];exact g2);rw[ha,hb] at h;rw[←hA, ←hB];have hs0:∀w0:World,(Instr.sliceAt 24 (.pointer (some ⟨w.heap.size,0,none⟩)) none none none).run Tryz.prog w0=.ok (.slice (some ⟨w.heap.size,0,none⟩) 32 32) w0:=fun w0=>DW w0 24 32 (by kernel_rfl) (by kernel_rfl) (by kernel_rfl) _ _
 have hs1:∀w0:World,(Instr.sliceAt 24 (.pointer (some ⟨w.heap.size+1,0,none⟩)) none none none).run Tryz.prog w0=.ok (.slice (some ⟨w.heap.size+1,0,none⟩) 32 32) w0:=fun w0=>DW w0 24 32 (by kernel_rfl) (by kernel_rfl) (by kernel_rfl) _ _
 generalize Lib.compareBytes a b=r at h ⊢;have H:=Lib.hid h;clear g1 g2 hA hB h;go_enter Tryz.func159,Tryz.ntmps159;go_wp2;refine AO (fun w0=>w0=((w.alloc (.cells A 24)).alloc (.cells B 24)).drew) 2 [(0,false),(1,false)] (by kernel_rfl) (by kernel_rfl) rfl ?_
 iterate 2 refine plan_look rfl rfl (fun w0 hS=>(by subst hS;go_simp;try rfl)) ?_
 refine Ae ?_;simp only[List.drop_succ_cons,List.drop_zero,Act.put,List.setIfInBounds_toArray,List.set_cons_succ,List.set_cons_zero];go_wp2_with fail;refine H.out.mono ?_;rintro e w1 ⟨rfl,rfl⟩;go_wp2;refine NoPanic.normal ?_;go_wp2;go_ret;exact⟨rfl,1, #[.cells A 24,.cells B 24],by rw[alloc_eq_grow,alloc_eq_grow,grow_grow];rfl⟩
end Go.Proofs.YtooijgcildbnlaaGreat.Path
namespace Go.Proofs.YtooijgcildbnlaaGreat.BC
open Go.RowKit Go.Proofs.YtooijgcildbnlaaGreat.ShaW Go.Proofs.YtooijgcildbnlaaGreat.Path Go.Proofs.YtooijgcildbnlaaGreat.Store
theorem JY {P:Program} {w:World} {ops:Array Oper} {rest:List Oper} {o:Oper} {a:Act} {Q:Exit→Act→World→Prop} (hgd:o.guard=none) (t k:Nat) (x:Operand) (ho:o.op=.build t #[(k,x)]) (vx:Value) (hx:a.eval x=vx)
 (cells:Array Value) (hf:P.built t [(k,vx)]=some cells) (h:wpList P ops Q rest (a.put o.dst (.agg cells)) w):wpList P ops Q (o::rest) a w :=
 wpList_build_is hgd t #[(k,x)] ho cells (by simpa[hx] using hf) h
theorem Oq {cur cs:Array Value} {o i:Nat} {v:Value} (h3:cur.extract o (o+cs.size)=cs) (hi:cs[i]?=some v):cur[o+i]?=some v:=by
 rw[←h3,Array.getElem?_extract] at hi;simp at hi;exact hi.2
theorem NJ {cur cs K:Array Value} {o n:Nat} (h3:cur.extract o (o+cs.size)=cs) (hn:n≤cs.size) (hk:cs.extract 0 (0+n)=K):cur.extract o (o+n)=K:=by
 rw[←hk, ←h3,Array.extract_extract]
 congr 1
 omega
structure St9 (w0 w:World) (s:Nat) (σ:AA Nd) (root:Int) (L:AN) (n:Nat) (b:Nat):Prop where
 own:Ow w0 w s σ (fun _=>False)
 db:Db σ root L
 room:σ.room=n
 total:total σ≤b
def Yi (l:List Pr):Bool:=decide (16<l.length)||l.any (fun x=>decide (1024<x.val.length))
def BZ (l:List Pr):List Value:=l.flatMap fun x=>x.cells.toList
def Hy (l:List Pr):Prop:=∀x∈l,x.key.length=32
theorem Hy.size {l:List Pr} (h:Hy l) {x:Pr} (hx:x∈l):x.cells.toList.length=33:=by rw[Array.length_toList];exact Pr.size (h x hx)
theorem Dm:∀(l:List Pr),Hy l→(BZ l).length=l.length*33
 | [],_=>by simp[BZ]
 | x::l,h=>by
  have ih:=Dm l (fun y hy=>h y (List.mem_cons_of_mem _ hy));have e:BZ (x::l)=x.cells.toList++BZ l:=by simp[BZ]
  rw[e,List.length_append,ih,h.size (List.mem_cons_self ..),List.length_cons];omega
theorem GF (l m:List Pr):BZ (l++m)=BZ l++BZ m:=by simp[BZ]
theorem FC {l:List Pr} {i:Nat} {x:Pr} (hi:l[i]?=some x):BZ l=BZ (l.take i)++(x.cells.toList++BZ (l.drop (i+1))):=by
 obtain⟨hlt,rfl⟩:=List.getElem?_eq_some_iff.1 hi;have e:=List.take_append_drop i l;rw[List.drop_eq_getElem_cons hlt] at e;have e2:BZ l=BZ (l.take i++l[i]::l.drop (i+1)):=by rw[e]
 have e3:BZ (l[i]::l.drop (i+1))=l[i].cells.toList++BZ (l.drop (i+1)):=List.flatMap_cons;rw[e2,GF,e3]
theorem IK {l:List Pr} (h:Hy l) {i:Nat} (hi:i≤l.length):(BZ (l.take i)).length=i*33:=by
 rw[Dm _ (fun x hx=>h x (List.mem_of_mem_take hx)),List.length_take,Nat.min_eq_left hi]
theorem L9 {l:List Pr} (h:Hy l) {i:Nat} {x:Pr} (hi:l[i]?=some x):((BZ l).drop (i*33)).take 33=x.cells.toList:=by
 have hlt:=(List.getElem?_eq_some_iff.1 hi).1;have hs:=h.size (List.mem_of_getElem? hi);rw[FC hi,List.drop_append_of_le_length (by rw[IK h (by omega)];omega),List.drop_eq_nil_of_le (by rw[IK h (by omega)];omega),List.nil_append,List.take_append_of_le_length (by omega),List.take_of_length_le (by omega)]
theorem SS {l:List Pr} (h:Hy l) {i:Nat} (hi:i<l.length) {p:Pr} (hp:p.key.length=32):splice (BZ l) (i*33) p.cells.toList=BZ (l.set i p):=by
 have hx:l[i]?=some l[i]:=List.getElem?_eq_getElem hi;have hp':(l.set i p)[i]?=some p:=by simp[hi]
 have hs:=h.size (List.mem_of_getElem? hx);have hps:p.cells.toList.length=33:=by rw[Array.length_toList];exact Pr.size hp
 have e2:(l.set i p).take i=l.take i:=by rw[List.take_set_of_le (Nat.le_refl _)]
 have e3:(l.set i p).drop (i+1)=l.drop (i+1):=by rw[List.drop_set_of_lt (Nat.lt_succ_self _)]
 rw[FC hp',e2,e3,splice,hps];have ht:=IK h (i:=i) (by omega)
 have e4:(BZ l).take (i*33)=BZ (l.take i):=by
  rw[FC hx,List.take_append_of_le_length (by omega),List.take_of_length_le (by omega)]
 have e5:(BZ l).drop (i*33+33)=BZ (l.drop (i+1)):=by
  rw[FC hx, ←List.append_assoc,List.drop_append,List.drop_eq_nil_of_le (by rw[List.length_append];omega),List.nil_append,List.length_append,ht,hs];simp
 rw[e4,e5,List.append_assoc]
def RowP (w:World) (b:Nat) (v:Value) (l:List Pr):Prop:=w.ownsRow b 141 33 v l.length (BZ l)
variable {w w' : World} {b : Nat} {v : Value} {l : List Pr}
theorem RowP.form (h:RowP w b v l):∃ao cap,v=.slice ao l.length cap:=Ab h
theorem RowP.adds (h:RowP w b v l) (a:Adds w w'):RowP w' b v l:=a.owns h (fun _ _ h=>h)
theorem RowP.open (h:RowP w b v l) (hk:Hy l) (hl:0<l.length):∃g cap cur,v=.slice (some ⟨g,0,none⟩) l.length cap∧b≤g∧w.heap[g]?=some (.cells cur 141 (0,0))∧l.length*33≤cur.size ∧
 (∀i x,l[i]?=some x→cur.extract (i*33) (i*33+33)=x.cells) ∧
 ∀i p,i<l.length→p.key.length=32→RowP (w.setRow g (splice cur.toList (i*33) p.cells.toList).toArray) b v (l.set i p):=by
 obtain⟨h0,⟨_,h1⟩|⟨g,cap,cur,rfl,hb,hg,hn,hc,hs,ht⟩⟩:=h
 · omega
 have hle:l.length*33≤cap*33:=Nat.mul_le_mul_right _ hn;refine⟨g,cap,cur,rfl,hb,hg,by omega,fun i x hx=>?_,fun i p hi hp=>?_⟩
 · have hlt:=(List.getElem?_eq_some_iff.1 hx).1
   have hm:i*33+33≤l.length*33:=by have:=Nat.mul_le_mul_right 33 (show i+1≤l.length by omega);omega
   apply Array.ext';rw[←L9 hk hx, ←ht];simp only[Array.toList_extract,List.extract];rw[List.drop_take,List.take_take,show i*33+33-i*33=33 by omega,Nat.min_eq_left (by omega)]
 have hps:p.cells.toList.length=33:=by rw[Array.length_toList];exact Pr.size hp
 have hm:i*33+33≤l.length*33:=by have:=Nat.mul_le_mul_right 33 (show i+1≤l.length by omega);omega
 have hsl:(splice cur.toList (i*33) p.cells.toList).length=cap*33:=by
  unfold splice;rw[List.length_append,List.length_append,List.length_take,List.length_drop,Array.length_toList,hps];omega
 have hks:Hy (l.set i p):=fun x hx=>by
  rcases List.mem_or_eq_of_mem_set hx with h|h
  · exact hk x h
  rw[h];exact hp
 refine⟨by rw[Dm _ hks],.inr ⟨g,cap,_,by rw[List.length_set],hb,AD hg _,by rw[List.length_set];exact hn,hc,by simpa using hsl,?_⟩⟩;rw[List.length_set, ←SS hk hi hp, ←ht];have hcl:cur.toList.length=cap*33:=by rw[Array.length_toList];exact hs
 unfold splice;rw[hps];rw[List.take_append,List.take_append,List.take_of_length_le (l:=cur.toList.take (i*33)) (by rw[List.length_take];omega),List.take_take,Nat.min_eq_left (by omega)];rw[List.length_append,List.length_take,hcl,hps,Nat.min_eq_left (by omega)];rw[List.take_of_length_le (l:=p.cells.toList) (by omega)]
 congr 1
 rw[List.drop_take]
theorem RowP.nil (w:World) (b:Nat):RowP w b (.slice none 0 0) []:=World.ownsRow_nil _ _ _ _
inductive OU:List Pr→List Pr→Prop
 | nil:OU [] []
 | new {l out:List Pr} {p:Pr} (h:OU l out) (hp:∀q∈out,q.key≠p.key):OU (l ++ [p]) (out ++ [p])
 | old {l out:List Pr} {p q:Pr} {i:Nat} (h:OU l out) (hq:out[i]?=some q) (hk:q.key=p.key):OU (l ++ [p]) (out.set i p)
end Go.Proofs.YtooijgcildbnlaaGreat.BC
namespace Go.Proofs.YtooijgcildbnlaaGreat
open Go.RowKit
section
variable {P : Program} {ops : Array Oper} {Q : Exit→Act→World→Prop} {md : Region.Mode} {S : World→Prop} {k : Nat}
def Za (k:Nat) (S:World→Prop) (listed:Array Bool) (w:World):Prop:=listed.getD k false=true∨S w
def V5 (P:Program) (md:Region.Mode) (ops:Array Oper) (Q:Exit→Act→World→Prop) (T:Array Bool→World→Prop) (n:Nat) (L:Array Bool→Act→World→Prop):Nat→Array Bool→Act→World→Prop
 | 0,listed,a,w=>L listed a w
 | f+1,listed,a,w =>
  Region.ready md ops listed ≠ []∧∀i∈Region.ready md ops listed,i<n∧wpOp P ops Q i (fun a' w'=>T (listed.setIfInBounds i true) w'∧V5 P md ops Q T n L f (listed.setIfInBounds i true) a' w') a w
def Na (P:Program) (l:List Oper) (Q:Exit→Act→World→Prop) (k:Nat) (S:World→Prop) (n:Nat):List (Nat×Nat)→Bool→Act→World→Prop
 | [],_,a,w=>wpList P l.toArray Q (l.drop n) a w
 | (i,0)::r,past,a,w=>∃o v,l[i]?=some o∧YieldsIf P l.toArray (fun _=>True) o v a∧Na P l Q k S n r past (a.put o.dst v) w
 | (i,1)::r,past,a,w=>∃o v,l[i]?=some o∧YieldsIf P l.toArray S o v a∧Na P l Q k S n r past (a.put o.dst v) w
 | (i,_+2)::r,past,a,w=>wpOp P l.toArray Q i (fun a' w'=>((past||i == k)=true∨S w')∧Na P l Q k S n r (past||i == k) a' w') a w
def Xj (md:Region.Mode) (ops:Array Oper) (k i:Nat):Bool:=match ops[k]? with
 | none=>false
 | some o=>o.after.any (fun e=>Region.binds md e&&(e.on == i))
def Nf (md:Region.Mode) (ops:Array Oper) (k n:Nat):List (Nat×Nat)→Array Bool→Bool
 | [],listed=>Region.seqB md ops (ops.size-n) n listed
 | (i,0)::r,listed=>decide (i<n)&&(i != k)&&(Region.ready md ops listed).contains i&&Region.free md ops listed i&&Nf md ops k n r (listed.setIfInBounds i true)
 | (i,1)::r,listed=>decide (i<n)&&(i != k)&&Xj md ops k i&&(Region.ready md ops listed).contains i&&Region.free md ops listed i&&Nf md ops k n r (listed.setIfInBounds i true)
 | (i,_+2)::r,listed=>decide (i<n)&&decide (Region.ready md ops listed = [i])&&Nf md ops k n r (listed.setIfInBounds i true)
def X0 (md:Region.Mode) (ops:Array Oper) (k n:Nat) (p:List (Nat×Nat)):Bool :=
 Region.noSelect ops&&decide (p.length=n)&&decide (n≤ops.size)&&Iw md ops n&&Nf md ops k n p (Array.replicate ops.size false)
end
end Go.Proofs.YtooijgcildbnlaaGreat
namespace Go.Proofs.YtooijgcildbnlaaGreat.BC
open Go.RowKit Go.Proofs.YtooijgcildbnlaaGreat.ShaW Go.Proofs.YtooijgcildbnlaaGreat.Path Go.Proofs.YtooijgcildbnlaaGreat.Store
def pick (x:Int) (n:Nat):Int:=if Int.tmod x n<0 then Int.tmod x n+n else Int.tmod x n
theorem Vo (x:Int) {n:Nat} (hn:0<n):0≤pick x n∧pick x n<n:=by
 have h1:=Int.lt_tmod_of_pos x (show(0:Int)<n by omega);have h2:=Int.tmod_lt_of_pos x (show(0:Int)<n by omega);unfold pick;split<;>omega
def ZX (out:List Pr) (key:List UInt8) (j:Nat) (x:Int):Prop:=(x = -1∧∀i q,i<j→out[i]?=some q→q.key≠key)∨∃(i:Nat) (q:Pr),i<j∧x=(i:Int)∧out[i]?=some q∧q.key=key
theorem GC {cur:Array Value} {o:Nat} {x:Pr} (hk:x.key.length=32) (h:cur.extract o (o+33)=x.cells):cur.extract o (o+32)=AJ x.key∧cur[o+32]?=some x.vv:=by
 have hs:=Pr.size hk;have h':cur.extract o (o+x.cells.size)=x.cells:=by rw[hs];exact h
 exact⟨NJ h' (by rw[hs];omega) (Pr.BJ hk),Oq h' (Pr.Fv hk)⟩
theorem Jc:(Tryz.prog.info? 141).map (·.size)=some 33:=by kernel_rfl
theorem Hf:∃i z,Tryz.prog.info? 141=some i∧i.zero=some z∧i.size=33∧i.bytes=56∧z.cells.size=33:=by
 obtain⟨i,h1,h2,h3,h4⟩:=info_parts (P:=Tryz.prog) (e:=141) (z:=.agg (List.replicate 32 (Value.int .u8 0) ++ [Value.slice none 0 0]).toArray) (size:=33) (bytes:=56) (by kernel_rfl);exact⟨i,_,h1,h2,h3,h4,rfl⟩
end Go.Proofs.YtooijgcildbnlaaGreat.BC
namespace Go.Proofs.YtooijgcildbnlaaGreat.BC
open Go.RowKit Go.Sort Go.Proofs.YtooijgcildbnlaaGreat.ShaW Go.Proofs.YtooijgcildbnlaaGreat.Path Go.Proofs.YtooijgcildbnlaaGreat.Store
structure PrK where
 p:Pr
 len:p.key.length=32
 one:p.vv.oneCell'=true
instance:Inhabited PrK:=⟨⟨⟨List.replicate 32 0,.slice none 0 0,[]⟩,rfl,rfl⟩⟩
def Eu (x:PrK):List Value:=x.p.cells.toList
theorem Ig (x:PrK):(Eu x).length=33:=by rw[Eu,Array.length_toList];exact Pr.size x.len
theorem Uj (x:PrK):∀v∈Eu x,v.oneCell'=true:=fun v hv=>by
 unfold Eu at hv;rw[Pr.list] at hv;rcases List.mem_append.1 hv with h|h
 · exact Cn _ v h
 simp at h;rw[h];exact x.one
def Rp (x y:PrK):Int:=Lib.compareBytes x.p.key y.p.key
theorem ltP (x y:PrK):ltOf Rp x y=decide (Lib.compareBytes x.p.key y.p.key<0):=rfl
theorem Yx:SWO (ltOf Rp) where
 irrefl x:=by rw[ltP,Gz];rfl
 trans x y z h1 h2:=by
  rw[ltP] at *;exact decide_eq_true (Fm _ _ _ (of_decide_eq_true h1) (of_decide_eq_true h2))
 ntrans x y z h1 h2:=by
  rw[ltP] at *;exact decide_eq_false (ER _ _ _ (of_decide_eq_false h1) (of_decide_eq_false h2))
theorem LB (w:World) (os:Array Obj) (q:Nat):(grow w os).drewN q=grow (w.drewN q) os:=rfl
theorem QL (x y:PrK) (W:World):Calls Tryz.prog 274 #[.agg (Eu x).toArray,.agg (Eu y).toArray] W fun e w'=>e=.returned (.int .i64 (Rp x y))∧∃q os,w'=grow (W.drewN q) os:=by
 obtain⟨A,hA⟩:∃A,A=x.p.cells:=⟨_,rfl⟩
 obtain⟨B,hB⟩:∃B,B=y.p.cells:=⟨_,rfl⟩
 have hc:=IB x.p.key y.p.key x.len y.len ((W.alloc (.cells A 141)).alloc (.cells B 141));have ka:=Pr.BJ x.len;have kb:=Pr.BJ y.len;have sa:=Pr.size x.len;have sb:=Pr.size y.len;unfold Eu Rp;rw[Array.toArray_toList,Array.toArray_toList];rw[←hA] at ka sa ⊢;rw[←hB] at kb sb ⊢;obtain⟨KA,hKA⟩:∃K,K=AJ x.p.key:=⟨_,rfl⟩
 obtain⟨KB,hKB⟩:∃K,K=AJ y.p.key:=⟨_,rfl⟩
 rw[←hKA] at ka hc;rw[←hKB] at kb hc;generalize Lib.compareBytes x.p.key y.p.key=r at hc ⊢;have g1:((W.alloc (.cells A 141)).alloc (.cells B 141)).heap[W.heap.size]?=some (.cells A 141 (0,0)):=AH (heap_alloc_new _ _) _
 have g2:((W.alloc (.cells A 141)).alloc (.cells B 141)).heap[W.heap.size+1]?=some (.cells B 141 (0,0)):=by
  have:=heap_alloc_new (W.alloc (.cells A 141)) (.cells B 141);simpa using this
 have G1:=Lib.hid g1;have G2:=Lib.hid g2;have HC:=Lib.hid hc;have HK:=(hIq ka kb)
 have HS:=(hIq sa sb)
 clear hA hB hKA hKB g1 g2 hc ka kb sa sb;go_enter Tryz.func274,Tryz.ntmps274
 go_wp2_with (first
  | fail
  | ((with_reducible show zOq (.load 24 _));refine AE rfl 24 _ rfl W.heap.size 0 rfl G1.out Tryz.underlying24 rfl AT (by rw[HS.out.1];omega) KA HK.out.1 ?_)
  | ((with_reducible show zOq (.load 24 _));refine AE rfl 24 _ rfl (W.heap.size+1) 0 rfl G2.out Tryz.underlying24 rfl AT (by rw[HS.out.2];omega) KB HK.out.2 ?_))
 refine HC.out.mono ?_;rintro e w1 ⟨rfl,q,os,rfl⟩;go_wp2;go_ret;refine⟨rfl,q, #[.cells A 141,.cells B 141]++os,?_⟩;rw[alloc_eq_grow,alloc_eq_grow,grow_grow,LB,grow_grow];rfl
theorem WB (blk off size:Nat) (w:World):CmpLays Tryz.prog 274 #[] Eu 33 Rp blk off size w:=fun _ _ _ _ x y=>QL x y _
theorem O2 {w:World} {g:Nat} {t:TypeId} {cur:Array Value} {d:Array PrK} (hg:w.heap[g]?=some (.cells cur t (0,0))) (hx:∀i x,d[i]?=some x→i*33+33≤cur.size∧cur.extract (i*33) (i*33+33)=x.p.cells):HoldsK Eu 33 w g 0 d:=by
 intro j hj;rw[size_flatK] at hj;have hi:j / 33<d.size:=by omega
 obtain⟨h1,h2⟩:=hx (j / 33) _ (Array.getElem?_eq_getElem hi);refine⟨?_,Ag hg _⟩;rw[get_flatK Eu 33 d j hj];have hm:j % 33<33:=Nat.mod_lt _ (by omega);have hs:=Pr.size (d[j / 33]).len
 have e1:cur[j]?=some (Eu d[j / 33]!)[j % 33]!:=by
  have e2:(cur.extract (j / 33*33) (j / 33*33+33))[j % 33]?=cur[j]?:=by
   rw[Array.getElem?_extract,if_pos (by omega)]
   congr 1
   omega
  rw[←e2,h2,getElem!_pos d (j / 33) hi];unfold Eu;rw[getElem!_pos _ _ (by rw[Array.length_toList,hs];exact hm),Array.getElem?_eq_getElem (by rw[hs];exact hm)];simp
 rw[Nat.zero_add];exact AF hg e1
theorem N1 {w:World} {g:Nat} {d:Array PrK} (h:HoldsK Eu 33 w g 0 d) {i:Nat} {x:PrK} (hx:d[i]?=some x):Bz w g (0+i*33) x.p.cells:=by
 have hi:=(Array.getElem?_eq_some_iff.1 hx).1;have hd:d[i]! = x:=by rw[getElem!_pos d i hi];exact(Array.getElem?_eq_some_iff.1 hx).2
 have:=Bz.Gg (w:=w) (g:=g) (o:=0+i*33) (m:=33) (cs:=Eu x) (by omega) (Ig x) (fun c hc=>by
  have h1:=h (i*33+c) (by rw[size_flatK];omega);rw[get_flatK Eu 33 d _ (by omega),show(i*33+c) / 33=i by omega,show(i*33+c) % 33=c by omega,hd] at h1;rw[show 0+i*33+c=0+(i*33+c) by omega];rw[h1.1,List.getElem?_eq_getElem (by rw[Ig];exact hc),getElem!_pos _ _ (by rw[Ig];exact hc)];rfl)
 rwa [Eu,Array.toArray_toList] at this
theorem SY (w:World) (g n:Nat) (d':Array PrK) (os:Array Obj):Ch (fun k=>k=g) w (sortWorldK Eu 33 w g 0 n d' os):=by
 unfold sortWorldK grow putRowK Go.Sort.putRow Go.Sort.mapBlock Go.Sort.ahead;refine⟨rfl,rfl,rfl,by simp,fun k hk hn=>?_⟩;simp only[Array.getElem?_append,Array.size_modify,hk,if_true,Array.getElem?_modify];rw[if_neg (fun e=>hn e.symm)]
theorem V4 {w:World} {g cap:Nat} {d:Array PrK} (hH:HoldsK Eu 33 w g 0 d) (hg:g<w.heap.size) (hn:d.size<4611686018427387904) :
 Calls Tryz.prog 273 #[.slice (some ⟨g,0,none⟩) d.size cap,.func (.func 274) #[] #[]] w fun e w'=>e=.returned (.tuple #[]) ∧
  ∃d':Array PrK,d'.size=d.size∧d'.toList.Perm d.toList∧d'.toList.Pairwise (fun x y=>¬Lib.compareBytes y.p.key x.p.key<0)∧HoldsK Eu 33 w' g 0 d'∧Ch (fun k=>k=g) w w':=by
 have eg:∀args w,(callFunc 274 args).run Tryz.prog w=.ok (.enter 274 args) w:=enters_of Tryz.func274 (by kernel_rfl) rfl;have hcon:=AnyQ.slices_SortFunc Mn 33 Tryz.isAgg141 Tryz.sizeOf141 Eu Ig Uj Rp Yx 274 #[] g 0 cap d w eg (WB g 0 d.size w) hH hg hn;refine Calls.mono hcon fun e w' ⟨he,d',n,os,hp,hs,hw⟩=>⟨he,d',hp.1,?_,?_,?_,?_⟩
 · have:=hp.2.2
   rwa [show d'.extract 0 d.size=d' by rw[←hp.1,Array.extract_size],Array.extract_size] at this
 · rw[List.pairwise_iff_getElem]
   intro i j hi hj hij;have hi':i<d'.size:=by simpa using hi
   have hj':j<d'.size:=by simpa using hj
   have:=hs i j (Nat.zero_le _) hij (by rw[←hp.1];exact hj');rw[ltP,getElem!_pos d' i hi',getElem!_pos d' j hj'] at this;simpa using this
 · rw[hw]
   exact holdsK_sortWorldK_c Eu 33 w g 0 d d' n os hH hg hp.1
 rw[hw];exact SY w g n d' os
end Go.Proofs.YtooijgcildbnlaaGreat.BC
namespace Go.Proofs.YtooijgcildbnlaaGreat.BC
open Go.RowKit Go.Proofs.YtooijgcildbnlaaGreat.ShaW Go.Proofs.YtooijgcildbnlaaGreat.Path Go.Proofs.YtooijgcildbnlaaGreat.Store
def Cb (w:World) (ao:Option Addr) (len:Nat):Prop:=∀i,i<len→∃(g off:Nat) (x:Int),ao=some ⟨g,off,none⟩∧w.cell? ⟨g,off+i,none⟩=some (.int .i64 x)∧(Lit.int .i64 x).wf=true∧g<w.heap.size
theorem N8 (l:List Pr):keysOf (l.map Pr.ent)=l.map (·.key):=by simp[keysOf,Pr.ent,Function.comp_def]
end Go.Proofs.YtooijgcildbnlaaGreat.BC
namespace Go.Proofs.YtooijgcildbnlaaGreat.Store
open Go.RowKit Go.Proofs.YtooijgcildbnlaaGreat.Path Go.Maps
theorem UT:laidOutB Tryz.prog=true:=by kernel_rfl
theorem Rb:Keyed Tryz.prog 24:=Keyed.of_law (deep_law_laid UT (m:=2) (by omega) (of_decide_eq_true (by kernel_rfl)) (by kernel_rfl) (by kernel_rfl))
theorem UG:Tryz.prog.keyType 24=true:=by kernel_rfl
theorem UK:Tryz.prog.cellsOf 24=32:=by kernel_rfl
theorem Vp:Tryz.prog.cellsOf 5=1:=by kernel_rfl
theorem Qc {α β:Type} {f:α→Option β} {g:α→β}:∀(l:List α),(∀x∈l,f x=some (g x))→l.mapM f=some (l.map g)
 | [],_=>rfl
 | x::l,h=>by
  rw[List.mapM_cons,h x (by simp),Qc l (fun y hy=>h y (by simp[hy]))];rfl
theorem Ld (k:List UInt8) (hk:k.length=32):∃l,keyOf Tryz.prog 24 (.agg (AJ k))=some l:=by
 have hsz:(AJ k).size=32:=by simp[AJ,hk]
 have hf:Value.formed Tryz.prog 24 (.agg (AJ k))=true:=by
  unfold Value.formed;simp only[Tryz.underlying24,UK,hsz];rfl
 have hl:∀n,Tryz.prog.keyLits (n+2) 24 (AJ k).toList=some (((List.range 32).map fun i => [Lit.int .u8 ((k.getD i 0).toNat:Int)]).flatten):=fun n=>by
  unfold Program.keyLits;simp only[Tryz.underlying24];rw[if_pos (by rw[UK,Array.length_toList,hsz]),Qc (g:=fun i => [Lit.int .u8 ((k.getD i 0).toNat:Int)])]
  · rfl
  intro i hi;have hi:i<32:=List.mem_range.1 hi
  have hg:((AJ k).toList.drop (i*Tryz.prog.cellsOf 5)).take (Tryz.prog.cellsOf 5) = [bv (k.getD i 0)]:=by
   rw[Vp,Nat.mul_one];have h1:i<(AJ k).toList.length:=by rw[Array.length_toList,hsz];exact hi
   rw[List.drop_eq_getElem_cons h1];have:=D7 (l:=k) (i:=i) (by omega);rw[Array.getElem?_eq_getElem (by rw[hsz];exact hi)] at this;injection this with this;simp[this]
  rw[hg];unfold Program.keyLits;simp only[Tryz.underlying5,bv];have:=(k.getD i 0).toNat_lt;rw[if_pos ⟨trivial,WalkArith.wf_u8 ⟨by omega,by omega⟩⟩]
 unfold keyOf;simp only[Tryz.underlying24,UG,hf];obtain⟨m,hm⟩:∃m,Tryz.prog.types.size+1=m+2:=⟨Tryz.prog.types.size-1,by have:1≤Tryz.prog.types.size:=of_decide_eq_true (by kernel_rfl);omega⟩
 rw[hm];have e:=hl m
 show ∃l,Option.map _ (Tryz.prog.keyLits (m+2) 24 (AJ k).toList)=some l
 rw[e];exact⟨_,rfl⟩
theorem IL {H:Type} {P:Program} {e:TypeId} (he:P.underlying e=some .bool) {v:Value} {z:DataW H×List MemPlace} (h:plainElem P e v=some z):∃x,v=.bool x∧z=(.lit (.bool x),[]):=by
 unfold plainElem at h;rw[he] at h;cases v<;>simp at h;exact⟨_,rfl,h.symm⟩
noncomputable abbrev WW:Value→Option (DataW Value×List MemPlace):=plainElem Tryz.prog 4
noncomputable def kl (k:List UInt8):Lit:=if h:k.length=32 then Classical.choose (Ld k h) else .bool false
theorem GS {k:List UInt8} (hk:k.length=32):keyOf Tryz.prog 24 (.agg (AJ k))=some (kl k):=by
 unfold kl;rw[dif_pos hk];exact Classical.choose_spec (Ld k hk)
theorem UW {a b:List UInt8} (h:AJ a=AJ b):a=b:=by
 have h2:a.map bv=b.map bv:=by have:=congrArg Array.toList h;simpa[AJ] using this
 refine List.map_inj_right (fun x y e=>?_) |>.1 h2;simp only[bv,Value.int.injEq,true_and] at e;exact UInt8.toNat_inj.1 (by omega)
theorem T2 {a b:List UInt8} (ha:a.length=32) (hb:b.length=32) (h:kl a=kl b):a=b:=by
 have:=Rb.inj (GS ha) (by rw[h];exact GS hb);injection this with this;exact UW this
theorem Pb {k:List UInt8} (hk:k.length=32):WideAt.IsKeyLit (kl k):=Rb.key (GS hk)
theorem PT (w:World):(zeroValue 4).run Tryz.prog w=.ok (.bool false) w:=by kernel_rfl
def Gr (w:World) (b n:Nat) (S:List (List UInt8)):Prop:=∃D,w.ownsMap Tryz.prog 24 WW b n D∧∀k:List UInt8,k.length=32→D.atKey (kl k) (.lit (.bool false))=.lit (.bool (decide (k∈S)))
theorem Gr.made (w:World):Gr (w.alloc (.map #[] 0)) w.heap.size 0 []:=⟨_,World.ownsMap_made w _ _ _,fun k _=>by simp[DataW.atKey]⟩
theorem Gr.AZ {F:Nat→Prop} {w w':World} {b n:Nat} {S:List (List UInt8)} (h:Gr w b n S) (hc:Ch F w w') (hb:¬F b):Gr w' b n S:=by
 obtain⟨D,⟨es,clock,hg,r⟩,h2⟩:=h;exact⟨D,⟨es,clock,hc.row hg hb,r⟩,h2⟩
theorem Gr.look {w:World} {b n:Nat} {S:List (List UInt8)} (h:Gr w b n S) {k:List UInt8} (hk:k.length=32) :
 (Instr.lookup 359 (.map (some b)) (.agg (AJ k)) false).run Tryz.prog w=.ok (.bool (decide (k∈S))) w:=by
 obtain⟨D,h1,h2⟩:=h;obtain⟨v,ps,hr,hv⟩:=h1.lookup Rb Tryz.underlying359 (PT w) (plainElem_bool Tryz.underlying4 false) (GS hk);rw[h2 k hk] at hv;rw[hr];obtain⟨x,rfl,hx⟩:=IL Tryz.underlying4 hv;simp only[Prod.mk.injEq,DataW.lit.injEq,Lit.bool.injEq] at hx;rw[hx.1]
theorem Rg {w:World} {b n:Nat} {S:List (List UInt8)} (h:Gr w b n S) (hn:n<maxLen) {ops:Array Oper} {rest:List Oper} {o:Oper} {a:Act} {Q:Exit→Act→World→Prop}
 (hg:o.guard=none) (m x v:Operand) (hop:o.op=Op.mapUpdate 359 m x v) (hm:a.eval m=.map (some b)) (k:List UInt8) (hk:k.length=32) (hx:a.eval x=.agg (AJ k)) (hv:a.eval v=.bool true)
 (hK:∀w',Gr w' b (n+1) (k::S)→Ch (fun k=>k=b) w w'→wpList Tryz.prog ops Q rest (a.put o.dst undef) w'):wpList Tryz.prog ops Q (o::rest) a w:=by
 obtain⟨D,h1,h2⟩:=h;refine wpList_mapUpdate_own w hg m x v _ hop 24 4 Rb Tryz.underlying359 WW b n D hm h1 hn _ _ (kl k) hx hv (GS hk) (.lit (.bool true)) [] (plainElem_bool Tryz.underlying4 true) ?_;intro w' h3 h4;refine hK w' ⟨_,h3,fun z hz=>?_⟩ ((Ch.refl _ w).grown h4 (fun k hk=>.inl (by cases hk;rfl)));by_cases e:z=k
 · subst e
   rw[Maps.atKey_put_same h1.isMap (Pb hk)];simp
 rw[Maps.atKey_put_other (fun he=>e (T2 hz hk he)),h2 z hz];simp[e]
end Go.Proofs.YtooijgcildbnlaaGreat.Store
