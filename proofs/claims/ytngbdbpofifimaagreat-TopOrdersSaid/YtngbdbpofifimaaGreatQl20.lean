/- Laws of the layers below. -/
import Derived.Test.YtngbdbpofifimaaGreatQl12
import Derived.Test.YtngbdbpofifimaaGreatQl19
import Derived.Shelf.SlSortCmp.WholeK
import Derived.Shelf.SlSortCmp.NoneTotal
import Derived.Test.YtngbdbpofifimaaGreatChecked
import Derived.Laws.Externs
import Derived.Sort.Grow
set_option maxHeartbeats 3200000
set_option maxRecDepth 100000
set_option linter.unusedVariables false
namespace Go.Proofs.YtngbdbpofifimaaGreat.Law9
open Go.RowKit Go.Proofs.YtngbdbpofifimaaGreat.ShaW Go.Proofs.YtngbdbpofifimaaGreat.Path Go.Proofs.YtngbdbpofifimaaGreat.Store
structure Wm where
 key:List UInt8
 gone:Bool
 vv:Value
 val:List UInt8
instance:Inhabited Wm:=⟨⟨[],false,.slice none 0 0,[]⟩⟩
def Wm.cells (x:Wm):Array Value:=(x.key.map bv ++ [.bool x.gone,x.vv]).toArray
def Wm.ent (x:Wm):List UInt8×List UInt8:=(x.key,x.val)
def Wm.wp (x:Wm):List UInt8×Option (List UInt8):=(x.key,if x.gone then none else some x.val)
structure Wm.Good (w:World) (x:Wm):Prop where
 key:x.key.length=32
 val:Bytes w x.vv x.val
 blk:x.val ≠ []→∀k,x.vv.ownBlock=some k→k<w.heap.size
theorem Wm.Good.Af {F:Nat→Prop} {w w':World} {x:Wm} (h:x.Good w) (hc:Ch F w w') (hF:∀k,F k→w.heap.size≤k):x.Good w' :=
 ⟨h.key,h.val.JN hc (fun h0 k hk hf=>by have:=h.blk h0 k hk;have:=hF k hf;omega),fun h0 k hk=>Nat.lt_of_lt_of_le (h.blk h0 k hk) hc.size⟩
section
variable {x : Wm} (h : x.key.length=32)
include h
theorem Wm.size:x.cells.size=34:=by simp[Wm.cells,h]
omit h in
theorem Wm.list:x.cells.toList=x.key.map bv ++ [.bool x.gone,x.vv]:=rfl
theorem Wm.BX:x.cells.extract 0 (0+32)=AK x.key:=by
 apply Array.ext';simp only[Array.toList_extract,List.extract,Wm.list,AK,List.drop_zero];rw[List.take_append_of_le_length (by simp[h]),List.take_of_length_le (by simp[h])]
theorem Wm.LC:x.cells[32]?=some (.bool x.gone):=by
 rw[←Array.getElem?_toList,Wm.list,List.getElem?_append_right (by simp[h])];simp[h]
theorem Wm.Hc:x.cells[33]?=some x.vv:=by
 rw[←Array.getElem?_toList,Wm.list,List.getElem?_append_right (by simp[h])];simp[h]
theorem QU {cur:Array Value} {o:Nat} (c3:cur.extract o (o+34)=x.cells):cur.extract o (o+32)=AK x.key∧cur[o+32]?=some (.bool x.gone)∧cur[o+33]?=some x.vv:=by
 have hs:=Wm.size h;have h':cur.extract o (o+x.cells.size)=x.cells:=by rw[hs];exact c3
 exact⟨Tb h' (by rw[hs];omega) (Wm.BX h),QG h' (Wm.LC h),QG h' (Wm.Hc h)⟩
end
theorem Wm.one {w:World} {x:Wm} (h:x.Good w):∀v∈x.cells.toList,v.oneCell'=true:=fun v hv=>by
 rw[Wm.list,List.mem_append,List.mem_map] at hv;rcases hv with⟨b,_,rfl⟩|hv
 · rfl
 obtain⟨ao,cap,e,_⟩:=h.val.form;simp at hv;rcases hv with rfl|rfl
 · rfl
 rw[e];rfl
structure Cq (w:World) (ao:Option Addr) (l:List Wm):Prop where
 good:∀x∈l,x.Good w
 row:EN 34 Wm.cells w ao l
section
variable {w w' : World} {ao : Option Addr} {l : List Wm}
theorem Cq.Af {F:Nat→Prop} (h:Cq w ao l) (hc:Ch F w w') (hF:∀k,F k→w.heap.size≤k):Cq w' ao l:=⟨fun x hx=>(h.good x hx).Af hc hF,h.row.Af hc hF⟩
theorem Cq.adds (h:Cq w ao l) (a:Adds w w'):Cq w' ao l:=h.Af a (fun _=>fEq)
theorem Cq.take (h:Cq w ao l) (n:Nat):Cq w ao (l.take n):=⟨fun x hx=>h.good x (List.mem_of_mem_take hx),h.row.take n⟩
theorem Cq.drop (h:Cq w ao l) (n cap:Nat) (hc:l.length≤cap):Cq w (PA 34 ao cap n) (l.drop n):=⟨fun x hx=>h.good x (List.mem_of_mem_drop hx),h.row.drop n cap hc⟩
theorem Cq.nil (w:World) (ao:Option Addr):Cq w ao []:=⟨fun x hx=>(by cases hx),fun i x hi=>(by simp at hi)⟩
end
theorem Zc:(Tryz.prog.info? (Tryz.prog.elem 132)).map (·.size)=some 34:=by kernel_rfl
theorem Eu:(Tryz.prog.info? 134).map (·.size)=some 34:=by kernel_rfl
theorem LI:Tryz.prog.underlying 132=some (.slice (Tryz.prog.elem 132)):=by kernel_rfl
theorem PW (w:World):(sizeOf (Tryz.prog.elem 132)).run Tryz.prog w=.ok 34 w:=by
 have hs:=Zc;cases hq:Tryz.prog.info? (Tryz.prog.elem 132) with
 | none=>rw[hq] at hs;cases hs
 | some inf =>
  rw[hq] at hs;have hs':inf.size=34:=by simpa using hs
  simp[sizeOf,typeInfo,hq,hs']
theorem P2 (w:World) (ao:Option Addr) (len cap i:Nat) (hi:i≤len) :
 (Instr.sliceAt 132 (.slice ao len cap) (some (.int .i64 (i:Int))) none none).run Tryz.prog w=.ok (.slice (PA 34 ao cap i) (len-i) (cap-i)) w:=by
 rw[run_sliceAt_slice w _ _ _ _ _ LI,run_slice_l w _ ao len cap LI .i64 (i:Int) (by omega) (by omega)];simp only[PW w,Result.andThen_ok,sliced,Int.toNat_natCast];rfl
theorem Pd (w:World) (ao:Option Addr) (len cap i:Nat) (hi:i≤cap) :
 (Instr.sliceAt 132 (.slice ao len cap) none (some (.int .i64 (i:Int))) none).run Tryz.prog w=.ok (.slice ao i cap) w:=by
 rw[run_sliceAt_slice w _ _ _ _ _ LI,run_slice_h w _ ao len cap LI .i64 (i:Int) (by omega) (by omega)]
 have e:(Value.slice (if cap=0 then ao else ao.map (·.add (0*34))) (i-0) (cap-0))=.slice ao i cap:=by
  rw[Nat.zero_mul,Nat.sub_zero,Nat.sub_zero]
  congr 1
  split
  · rfl
  cases ao<;>rfl
 simp only[PW w,Result.andThen_ok,sliced,Int.toNat_natCast,e]
end Go.Proofs.YtngbdbpofifimaaGreat.Law9
namespace Go.Proofs.YtngbdbpofifimaaGreat
open Go.Shelf
def Mh:Go.Shelf.Ren:=⟨fun|6=>268|15=>253|14=>304|28=>285|29=>286|20=>332|21=>333|22=>334|23=>335|24=>336|25=>337|26=>338|27=>339|46=>346|47=>310|48=>311|49=>347|50=>348|57=>350|n=>n,fun|22=>56|24=>86|25=>357|3=>3|39=>216|0=>0|53=>332|55=>339|4=>4|46=>368|45=>367|50=>302|5=>5|9=>9|66=>387|70=>391|76=>408|77=>226|n=>n,fun|n=>n⟩
theorem M1:Go.Proofs.SlLaysF0.n6 Tryz.prog Mh := {
 mixed:=by kernel_rfl
 f6:=⟨Tryz.f268.name,by decide,Tryz.func268.trans (congrArg some (by kernel_rfl))⟩
 f14:=⟨Tryz.f304.name,by decide,Tryz.func304.trans (congrArg some (by kernel_rfl))⟩
 f15:=Tryz.func253.trans (congrArg some (by kernel_rfl))
 f20:=⟨Tryz.f332.name,by decide,Tryz.func332.trans (congrArg some (by kernel_rfl))⟩
 f21:=⟨Tryz.f333.name,by decide,Tryz.func333.trans (congrArg some (by kernel_rfl))⟩
 f22:=⟨Tryz.f334.name,by decide,Tryz.func334.trans (congrArg some (by kernel_rfl))⟩
 f23:=⟨Tryz.f335.name,by decide,Tryz.func335.trans (congrArg some (by kernel_rfl))⟩
 f24:=⟨Tryz.f336.name,by decide,Tryz.func336.trans (congrArg some (by kernel_rfl))⟩
 f25:=⟨Tryz.f337.name,by decide,Tryz.func337.trans (congrArg some (by kernel_rfl))⟩
 f26:=⟨Tryz.f338.name,by decide,Tryz.func338.trans (congrArg some (by kernel_rfl))⟩
 f27:=⟨Tryz.f339.name,by decide,Tryz.func339.trans (congrArg some (by kernel_rfl))⟩
 f28:=Tryz.func285.trans (congrArg some (by kernel_rfl))
 f29:=Tryz.func286.trans (congrArg some (by kernel_rfl))
 f46:=⟨Tryz.f346.name,by decide,Tryz.func346.trans (congrArg some (by kernel_rfl))⟩
 f47:=Tryz.func310.trans (congrArg some (by kernel_rfl))
 f48:=Tryz.func311.trans (congrArg some (by kernel_rfl))
 f49:=⟨Tryz.f347.name,by decide,Tryz.func347.trans (congrArg some (by kernel_rfl))⟩
 f50:=⟨Tryz.f348.name,by decide,Tryz.func348.trans (congrArg some (by kernel_rfl))⟩
 f57:=⟨Tryz.f350.name,by decide,Tryz.func350.trans (congrArg some (by kernel_rfl))⟩
 t0:=Tryz.underlying0
 a0:=Tryz.isAgg0
 z0:=Tryz.sizeOf0
 v0:=Tryz.zeroValue0
 t3:=Tryz.underlying3
 a3:=Tryz.isAgg3
 z3:=Tryz.sizeOf3
 v3:=Tryz.zeroValue3
 t4:=Tryz.underlying4
 a4:=Tryz.isAgg4
 z4:=Tryz.sizeOf4
 v4:=Tryz.zeroValue4
 t5:=Tryz.underlying5
 a5:=Tryz.isAgg5
 z5:=Tryz.sizeOf5
 v5:=Tryz.zeroValue5
 t9:=Tryz.underlying9
 a9:=Tryz.isAgg9
 z9:=Tryz.sizeOf9
 v9:=Tryz.zeroValue9
 t22:=Tryz.underlying56
 a22:=Tryz.isAgg56
 z22:=Tryz.sizeOf56
 v22:=Tryz.zeroValue56
 t25:=Tryz.underlying357
 a25:=Tryz.isAgg357
 z25:=Tryz.sizeOf357
 v25:=Tryz.zeroValue357
 t39:=Tryz.underlying216
 a39:=Tryz.isAgg216
 z39:=Tryz.sizeOf216
 v39:=Tryz.zeroValue216
 t45:=Tryz.underlying367
 a45:=Tryz.isAgg367
 z45:=Tryz.sizeOf367
 v45:=Tryz.zeroValue367
 t46:=Tryz.underlying368
 a46:=Tryz.isAgg368
 z46:=Tryz.sizeOf368
 v46:=Tryz.zeroValue368
 t50:=Tryz.underlying302
 a50:=Tryz.isAgg302
 z50:=Tryz.sizeOf302
 v50:=Tryz.zeroValue302
 t53:=Tryz.underlying332
 a53:=Tryz.isAgg332
 z53:=Tryz.sizeOf332
 v53:=Tryz.zeroValue332
 t55:=Tryz.underlying339
 a55:=Tryz.isAgg339
 z55:=Tryz.sizeOf339
 v55:=Tryz.zeroValue339
 t66:=Tryz.underlying387
 a66:=Tryz.isAgg387
 z66:=Tryz.sizeOf387
 v66:=Tryz.zeroValue387
 t70:=Tryz.underlying391
 a70:=Tryz.isAgg391
 z70:=Tryz.sizeOf391
 v70:=Tryz.zeroValue391
 t76:=Tryz.underlying408
 a76:=Tryz.isAgg408
 z76:=Tryz.sizeOf408
 v76:=Tryz.zeroValue408
 t77:=Tryz.underlying226
 a77:=Tryz.isAgg226
 z77:=Tryz.sizeOf226
 v77:=Tryz.zeroValue226 }
end Go.Proofs.YtngbdbpofifimaaGreat
namespace Go.Proofs.YtngbdbpofifimaaGreat.Path
open Go.RowKit Go.Sort
theorem KE (a b:ByteArray) (w:World):Calls Tryz.prog 303 #[.string a,.string b] w fun e w'=>e=.returned (.int .i64 (Lib.compareBytes a.data.toList b.data.toList))∧w=w':=by
 go_enter Tryz.func303,Tryz.ntmps303;go_wp2;rw[run_callFunc_extern Tryz.func331 (by kernel_rfl) (by kernel_rfl) (by kernel_rfl) (e:=Extern.BytealgCompare.compare) (by kernel_rfl),Lib.run_compareString];simp only[Result.andThen];rw[Oper.upon_value];go_wp2;go_ret;exact⟨rfl,rfl⟩
theorem Mo (a b:ByteArray) (w:World):Calls Tryz.prog 266 #[.string a,.string b] w fun e w'=>e=.returned (.int .i64 (Lib.compareBytes a.data.toList b.data.toList))∧w=w':=by
 have h:=KE a b w;generalize Lib.compareBytes a.data.toList b.data.toList=r at h ⊢;go_enter Tryz.func266,Tryz.ntmps266;go_wp2_with fail;refine h.mono ?_;rintro e w1 ⟨rfl,rfl⟩;go_wp2;go_ret;exact⟨rfl,rfl⟩
def EC (x:List UInt8):List Int:=x.map fun b=>(b.toNat:Int)
theorem Lz (x:List UInt8):(strOfNums (EC x)).data.toList=x:=by
 rw[strOfNums_data];unfold EC;rw[List.map_map]
 conv=>rhs;rw[←List.map_id x]
 refine List.map_congr_left fun b _=>?_
 simp
theorem Mp {w:World} {g1 g2 c1 c2:Nat} {t1 t2:TypeId} {f1 f2:Nat×Nat} (x y:List UInt8) (hx:w.heap[g1]?=some (.cells (AK x) t1 f1)) (hy:w.heap[g2]?=some (.cells (AK y) t2 f2)) :
 Calls Tryz.prog 233 #[.slice (some ⟨g1,0,none⟩) x.length c1,.slice (some ⟨g2,0,none⟩) y.length c2] w fun e w'=>e=.returned (.int .i64 (Lib.compareBytes x y))∧w=w':=by
 have get:∀(z:List UInt8) (i:Nat),i<z.length→(AK z)[i]?=some (.int .u8 ((EC z).getD i 0)):=fun z i hi=>by
  rw[D9 hi];simp[EC,bv,hi]
 have r1:(convert 29 9 (.slice (some ⟨g1,0,none⟩) x.length c1)).run Tryz.prog w=.ok (.string (strOfNums (EC x))) w :=
  run_convert_bytes_arg w _ _ Tryz.underlying29 Tryz.underlying5 g1 0 x.length c1 (EC x) (by simp[EC]) (fun i hi=>by rw[Nat.zero_add];exact AH hx (get x i hi)) _ Tryz.underlying9
 have r2:(convert 29 9 (.slice (some ⟨g2,0,none⟩) y.length c2)).run Tryz.prog w=.ok (.string (strOfNums (EC y))) w :=
  run_convert_bytes_arg w _ _ Tryz.underlying29 Tryz.underlying5 g2 0 y.length c2 (EC y) (by simp[EC]) (fun i hi=>by rw[Nat.zero_add];exact AH hy (get y i hi)) _ Tryz.underlying9
 have h:=Mo (strOfNums (EC x)) (strOfNums (EC y)) w;rw[Lz,Lz] at h;generalize Lib.compareBytes x y=r at h ⊢;generalize strOfNums (EC x)=s1 at r1 h;generalize strOfNums (EC y)=s2 at r2 h;clear get hx hy;go_enter Tryz.func233,Tryz.ntmps233;go_wp2_with fail;refine h.mono ?_;rintro e w1 ⟨rfl,rfl⟩;go_wp2;go_ret;exact⟨rfl,rfl⟩
theorem Iz (a b:List UInt8) (ha:a.length=32) (hb:b.length=32) (w:World) :
 Calls Tryz.prog 164 #[.agg (AK a),.agg (AK b)] w fun e w'=>e=.returned (.int .i64 (Lib.compareBytes a b))∧∃q os,w'=grow (w.drewN q) os:=by
 obtain⟨A,hA⟩:∃A,A=AK a:=⟨_,rfl⟩
 obtain⟨B,hB⟩:∃B,B=AK b:=⟨_,rfl⟩
 have g1:((w.alloc (.cells A 47)).alloc (.cells B 47)).drew.heap[w.heap.size]?=some (.cells A 47 (0,0)):=AP (AM (heap_alloc_new _ _) _)
 have g2:((w.alloc (.cells A 47)).alloc (.cells B 47)).drew.heap[w.heap.size+1]?=some (.cells B 47 (0,0)):=by
  have:=heap_alloc_new (w.alloc (.cells A 47)) (.cells B 47);exact AP (by simpa using this)
 have h:=Mp (c1:=32) (c2:=32) a b (by rw[←hA];exact g1) (by rw[←hB];exact g2);rw[ha,hb] at h;rw[←hA, ←hB];have hs0:∀w0:World,(Instr.sliceAt 47 (.pointer (some ⟨w.heap.size,0,none⟩)) none none none).run Tryz.prog w0=.ok (.slice (some ⟨w.heap.size,0,none⟩) 32 32) w0:=fun w0=>CK w0 47 32 (by kernel_rfl) (by kernel_rfl) (by kernel_rfl) _ _
 have hs1:∀w0:World,(Instr.sliceAt 47 (.pointer (some ⟨w.heap.size+1,0,none⟩)) none none none).run Tryz.prog w0=.ok (.slice (some ⟨w.heap.size+1,0,none⟩) 32 32) w0:=fun w0=>CK w0 47 32 (by kernel_rfl) (by kernel_rfl) (by kernel_rfl) _ _
 generalize Lib.compareBytes a b=r at h ⊢;have H:=Lib.hid h;clear g1 g2 hA hB h;go_enter Tryz.func164,Tryz.ntmps164;go_wp2;refine AO (fun w0=>w0=((w.alloc (.cells A 47)).alloc (.cells B 47)).drew) 2 [(0,false),(1,false)] (by kernel_rfl) (by kernel_rfl) rfl ?_
 iterate 2 refine plan_look rfl rfl (fun w0 hS=>(by subst hS;go_simp;try rfl)) ?_
 refine AZ ?_;simp only[List.drop_succ_cons,List.drop_zero,Act.put,List.setIfInBounds_toArray,List.set_cons_succ,List.set_cons_zero];go_wp2_with fail;refine H.out.mono ?_;rintro e w1 ⟨rfl,rfl⟩;go_wp2;refine NoPanic.normal ?_;go_wp2;go_ret;exact⟨rfl,1, #[.cells A 47,.cells B 47],by rw[alloc_eq_grow,alloc_eq_grow,grow_grow];rfl⟩
end Go.Proofs.YtngbdbpofifimaaGreat.Path
namespace Go.Proofs.YtngbdbpofifimaaGreat.Law9
open Go.RowKit Go.Proofs.YtngbdbpofifimaaGreat.ShaW Go.Proofs.YtngbdbpofifimaaGreat.Path Go.Proofs.YtngbdbpofifimaaGreat.Store
theorem KP {P:Program} {w:World} {ops:Array Oper} {rest:List Oper} {o:Oper} {a:Act} {Q:Exit→Act→World→Prop} (hgd:o.guard=none) (t k:Nat) (x:Operand) (ho:o.op=.build t #[(k,x)]) (vx:Value) (hx:a.eval x=vx)
 (cells:Array Value) (hf:P.built t [(k,vx)]=some cells) (h:wpList P ops Q rest (a.put o.dst (.agg cells)) w):wpList P ops Q (o::rest) a w :=
 wpList_build_is hgd t #[(k,x)] ho cells (by simpa[hx] using hf) h
theorem Sh:Tryz.prog.built 47 []=some (AK (Z5 0)):=by kernel_rfl
theorem PU {cur cs:Array Value} {o i:Nat} {v:Value} (h3:cur.extract o (o+cs.size)=cs) (hi:cs[i]?=some v):cur[o+i]?=some v:=by
 rw[←h3,Array.getElem?_extract] at hi;simp at hi;exact hi.2
theorem OX {cur cs K:Array Value} {o n:Nat} (h3:cur.extract o (o+cs.size)=cs) (hn:n≤cs.size) (hk:cs.extract 0 (0+n)=K):cur.extract o (o+n)=K:=by
 rw[←hk, ←h3,Array.extract_extract]
 congr 1
 omega
structure St9 (w0 w:World) (s:Nat) (σ:AD Nd) (root:Int) (L:AS) (n:Nat) (b:Nat):Prop where
 own:Ow w0 w s σ (fun _=>False)
 db:Db σ root L
 room:σ.room=n
 total:total σ≤b
def Bj (l:List Pr):List Value:=l.flatMap fun x=>x.cells.toList
def He (l:List Pr):Prop:=∀x∈l,x.key.length=32
theorem He.size {l:List Pr} (h:He l) {x:Pr} (hx:x∈l):x.cells.toList.length=33:=by rw[Array.length_toList];exact Pr.size (h x hx)
theorem EG:∀(l:List Pr),He l→(Bj l).length=l.length*33
 | [],_=>by simp[Bj]
 | x::l,h=>by
  have ih:=EG l (fun y hy=>h y (List.mem_cons_of_mem _ hy));have e:Bj (x::l)=x.cells.toList++Bj l:=by simp[Bj]
  rw[e,List.length_append,ih,h.size (List.mem_cons_self ..),List.length_cons];omega
theorem Gd (l m:List Pr):Bj (l++m)=Bj l++Bj m:=by simp[Bj]
theorem Fs {l:List Pr} {i:Nat} {x:Pr} (hi:l[i]?=some x):Bj l=Bj (l.take i)++(x.cells.toList++Bj (l.drop (i+1))):=by
 obtain⟨hlt,rfl⟩:=List.getElem?_eq_some_iff.1 hi;have e:=List.take_append_drop i l;rw[List.drop_eq_getElem_cons hlt] at e;have e2:Bj l=Bj (l.take i++l[i]::l.drop (i+1)):=by rw[e]
 have e3:Bj (l[i]::l.drop (i+1))=l[i].cells.toList++Bj (l.drop (i+1)):=List.flatMap_cons;rw[e2,Gd,e3]
theorem I7 {l:List Pr} (h:He l) {i:Nat} (hi:i≤l.length):(Bj (l.take i)).length=i*33:=by
 rw[EG _ (fun x hx=>h x (List.mem_of_mem_take hx)),List.length_take,Nat.min_eq_left hi]
theorem Nf {l:List Pr} (h:He l) {i:Nat} {x:Pr} (hi:l[i]?=some x):((Bj l).drop (i*33)).take 33=x.cells.toList:=by
 have hlt:=(List.getElem?_eq_some_iff.1 hi).1;have hs:=h.size (List.mem_of_getElem? hi);rw[Fs hi,List.drop_append_of_le_length (by rw[I7 h (by omega)];omega),List.drop_eq_nil_of_le (by rw[I7 h (by omega)];omega),List.nil_append,List.take_append_of_le_length (by omega),List.take_of_length_le (by omega)]
theorem Sr {l:List Pr} (h:He l) {i:Nat} (hi:i<l.length) {p:Pr} (hp:p.key.length=32):splice (Bj l) (i*33) p.cells.toList=Bj (l.set i p):=by
 have hx:l[i]?=some l[i]:=List.getElem?_eq_getElem hi;have hp':(l.set i p)[i]?=some p:=by simp[hi]
 have hs:=h.size (List.mem_of_getElem? hx);have hps:p.cells.toList.length=33:=by rw[Array.length_toList];exact Pr.size hp
 have e2:(l.set i p).take i=l.take i:=by rw[List.take_set_of_le (Nat.le_refl _)]
 have e3:(l.set i p).drop (i+1)=l.drop (i+1):=by rw[List.drop_set_of_lt (Nat.lt_succ_self _)]
 rw[Fs hp',e2,e3,splice,hps];have ht:=I7 h (i:=i) (by omega)
 have e4:(Bj l).take (i*33)=Bj (l.take i):=by
  rw[Fs hx,List.take_append_of_le_length (by omega),List.take_of_length_le (by omega)]
 have e5:(Bj l).drop (i*33+33)=Bj (l.drop (i+1)):=by
  rw[Fs hx, ←List.append_assoc,List.drop_append,List.drop_eq_nil_of_le (by rw[List.length_append];omega),List.nil_append,List.length_append,ht,hs];simp
 rw[e4,e5,List.append_assoc]
def EK (w:World) (b:Nat) (v:Value) (l:List Pr):Prop:=w.ownsRow b 86 33 v l.length (Bj l)
variable {w w' : World} {b : Nat} {v : Value} {l : List Pr}
theorem EK.form (h:EK w b v l):∃ao cap,v=.slice ao l.length cap:=Aj h
theorem EK.adds (h:EK w b v l) (a:Adds w w'):EK w' b v l:=a.owns h (fun _ _ h=>h)
theorem EK.drew (h:EK w b v l):EK w.drew b v l:=h
theorem EK.open (h:EK w b v l) (hk:He l) (hl:0<l.length):∃g cap cur,v=.slice (some ⟨g,0,none⟩) l.length cap∧b≤g∧w.heap[g]?=some (.cells cur 86 (0,0))∧l.length*33≤cur.size ∧
 (∀i x,l[i]?=some x→cur.extract (i*33) (i*33+33)=x.cells) ∧
 ∀i p,i<l.length→p.key.length=32→EK (w.setRow g (splice cur.toList (i*33) p.cells.toList).toArray) b v (l.set i p):=by
 obtain⟨h0,⟨_,h1⟩|⟨g,cap,cur,rfl,hb,hg,hn,hc,hs,ht⟩⟩:=h
 · omega
 have hle:l.length*33≤cap*33:=Nat.mul_le_mul_right _ hn;refine⟨g,cap,cur,rfl,hb,hg,by omega,fun i x hx=>?_,fun i p hi hp=>?_⟩
 · have hlt:=(List.getElem?_eq_some_iff.1 hx).1
   have hm:i*33+33≤l.length*33:=by have:=Nat.mul_le_mul_right 33 (show i+1≤l.length by omega);omega
   apply Array.ext';rw[←Nf hk hx, ←ht];simp only[Array.toList_extract,List.extract];rw[List.drop_take,List.take_take,show i*33+33-i*33=33 by omega,Nat.min_eq_left (by omega)]
 have hps:p.cells.toList.length=33:=by rw[Array.length_toList];exact Pr.size hp
 have hm:i*33+33≤l.length*33:=by have:=Nat.mul_le_mul_right 33 (show i+1≤l.length by omega);omega
 have hsl:(splice cur.toList (i*33) p.cells.toList).length=cap*33:=by
  unfold splice;rw[List.length_append,List.length_append,List.length_take,List.length_drop,Array.length_toList,hps];omega
 have hks:He (l.set i p):=fun x hx=>by
  rcases List.mem_or_eq_of_mem_set hx with h|h
  · exact hk x h
  rw[h];exact hp
 refine⟨by rw[EG _ hks],.inr ⟨g,cap,_,by rw[List.length_set],hb,AF hg _,by rw[List.length_set];exact hn,hc,by simpa using hsl,?_⟩⟩;rw[List.length_set, ←Sr hk hi hp, ←ht];have hcl:cur.toList.length=cap*33:=by rw[Array.length_toList];exact hs
 unfold splice;rw[hps];rw[List.take_append,List.take_append,List.take_of_length_le (l:=cur.toList.take (i*33)) (by rw[List.length_take];omega),List.take_take,Nat.min_eq_left (by omega)];rw[List.length_append,List.length_take,hcl,hps,Nat.min_eq_left (by omega)];rw[List.take_of_length_le (l:=p.cells.toList) (by omega)]
 congr 1
 rw[List.drop_take]
theorem EK.nil (w:World) (b:Nat):EK w b (.slice none 0 0) []:=World.ownsRow_nil _ _ _ _
inductive QW:List Pr→List Pr→Prop
 | nil:QW [] []
 | new {l out:List Pr} {p:Pr} (h:QW l out) (hp:∀q∈out,q.key≠p.key):QW (l ++ [p]) (out ++ [p])
 | old {l out:List Pr} {p q:Pr} {i:Nat} (h:QW l out) (hq:out[i]?=some q) (hk:q.key=p.key):QW (l ++ [p]) (out.set i p)
end Go.Proofs.YtngbdbpofifimaaGreat.Law9
namespace Go.Proofs.YtngbdbpofifimaaGreat
open Go.RowKit
section
variable {P : Program} {ops : Array Oper} {Q : Exit→Act→World→Prop} {md : Region.Mode} {S : World→Prop} {k : Nat}
def Hk (k:Nat) (S:World→Prop) (listed:Array Bool) (w:World):Prop:=listed.getD k false=true∨S w
theorem Hk.set {i:Nat} (hik:i≠k) {listed:Array Bool} {w:World}:Hk k S (listed.setIfInBounds i true) w↔Hk k S listed w:=by
 have:(listed.setIfInBounds i true).getD k false=listed.getD k false:=by
  simp only[Array.getD_eq_getD_getElem?];rw[Array.getElem?_setIfInBounds_ne hik]
 unfold Hk;rw[this]
def wpHeadK (P:Program) (md:Region.Mode) (ops:Array Oper) (Q:Exit→Act→World→Prop) (T:Array Bool→World→Prop) (n:Nat) (L:Array Bool→Act→World→Prop):Nat→Array Bool→Act→World→Prop
 | 0,listed,a,w=>L listed a w
 | f+1,listed,a,w =>
  Region.ready md ops listed ≠ []∧∀i∈Region.ready md ops listed,i<n∧wpOp P ops Q i (fun a' w'=>T (listed.setIfInBounds i true) w'∧wpHeadK P md ops Q T n L f (listed.setIfInBounds i true) a' w') a w
theorem GK {T:Array Bool→World→Prop} {n g:Nat} {L:Array Bool→Act→World→Prop} (hL:∀listed a w,L listed a w→wpAny P md ops Q g listed a w) :
 ∀(f:Nat) (listed:Array Bool) (a:Act) (w:World),wpHeadK P md ops Q T n L f listed a w→wpAny P md ops Q (f+g) listed a w
 | 0,listed,a,w,h=>by rw[Nat.zero_add];exact hL _ _ _ h
 | f+1,listed,a,w,h=>by
  rw[show f+1+g=(f+g)+1 by omega];exact⟨fun h0=>absurd h0 h.1,fun i hi=>wpOp_mono (fun a' w' h'=>GK hL f _ a' w' h'.2) (h.2 i hi).2⟩
theorem Il {n i:Nat} {oi:Oper} {v:Value} {S':World→Prop} {L:Array Bool→Act→World→Prop} (hi:ops[i]?=some oi) (hik:i≠k) (hsel:∀(j:Nat) (o:Oper) cs b,ops[j]?=some o→o.op≠.select cs b)
 (hQ:∀c a w,Q (.panic c) (a.put oi.dst v) w→Q (.panic c) a w) (ht:It md ops n=true) (hin:i<n)
 (hdone:∀listed a w,L listed a w→∀j∈Region.ready md ops listed,n≤j)
 (hS':∀listed w,HeadInv md ops n listed→listed.getD i true=false→Hk k S listed w→S' w) :
 ∀(f:Nat) (listed:Array Bool) (a:Act) (w:World),HeadInv md ops n listed →
  (∀j oj,ops[j]?=some oj→j≠i→listed.getD j true=false→(∀e∈oj.after,Region.binds md e=true→e.on≠i)→oi.apart ops oj=true) →
  i∈Region.ready md ops listed→YieldsIf P ops S' oi v a→Hk k S listed w →
  wpHeadK P md ops Q (Hk k S) n L f (listed.setIfInBounds i true) (a.put oi.dst v) w→wpHeadK P md ops Q (Hk k S) n L (f+1) listed a w:=by
 intro f
 induction f with
 | zero =>
  intro listed a w inv _ hr hy hS H;have hun:=(mem_ready.1 hr).1;refine⟨fun h=>(by rw[h] at hr;cases hr),fun j hj=>?_⟩;have hjn:=Ic ht inv hin hun j hj;refine⟨hjn,?_⟩;by_cases hji:j=i
  · subst hji;exact hy.wpOp hi (hS' listed w inv hun hS) ⟨(Hk.set hik).2 hS,H⟩
  have:=hdone _ _ _ H j (ready_mono hj hji);omega
 | succ f ih =>
  intro listed a w inv hfree hr hy hS H;have hun:=(mem_ready.1 hr).1;refine⟨fun h=>(by rw[h] at hr;cases hr),fun j hj=>?_⟩;have hjn:=Ic ht inv hin hun j hj;refine⟨hjn,?_⟩;by_cases hji:j=i
  · subst hji;exact hy.wpOp hi (hS' listed w inv hun hS) ⟨(Hk.set hik).2 hS,H⟩
  have h1:=(H.2 j (ready_mono hj hji)).2;obtain⟨hjun,oj,hoj,hall⟩:=mem_ready.1 hj
  have hnot:∀e∈oj.after,Region.binds md e=true→e.on≠i:=fun e he hb heq=>by
   have h1:=hall e he hb;rw[heq,getD_both hun] at h1;cases h1
  have h2:=wpOp_putIf hoj (hfree j oj hoj hji hjun hnot) (fun cs b=>hsel i oi cs b hi) (fun cs b=>hsel j oj cs b hoj) hQ hy h1
  have hfree':∀k ok,ops[k]?=some ok→k≠i→(listed.setIfInBounds j true).getD k true=false →
   (∀e∈ok.after,Region.binds md e=true→e.on≠i)→oi.apart ops ok=true:=fun k ok hk hki hun hno=>by
   refine hfree k ok hk hki ?_ hno;by_cases hjk:j=k
   · subst hjk;exact hjun
   rw[getD_set_ne true hjk] at hun;exact hun
  refine wpOp_mono (fun a' w' h3=>?_) h2
  have hT:Hk k S (listed.setIfInBounds j true) w':=by
   have:=h3.2.1;rw[Array.setIfInBounds_comm _ _ (Ne.symm hji)] at this;exact(Hk.set hik).1 this
  refine⟨hT,ih (listed.setIfInBounds j true) a' w' (inv.set hj hjn) hfree' (ready_mono hr (Ne.symm hji)) h3.1 hT ?_⟩;rw[Array.setIfInBounds_comm _ _ hji];exact h3.2.2
def Cr (P:Program) (l:List Oper) (Q:Exit→Act→World→Prop) (k:Nat) (S:World→Prop) (n:Nat):List (Nat×Nat)→Bool→Act→World→Prop
 | [],_,a,w=>wpList P l.toArray Q (l.drop n) a w
 | (i,0)::r,past,a,w=>∃o v,l[i]?=some o∧YieldsIf P l.toArray (fun _=>True) o v a∧Cr P l Q k S n r past (a.put o.dst v) w
 | (i,1)::r,past,a,w=>∃o v,l[i]?=some o∧YieldsIf P l.toArray S o v a∧Cr P l Q k S n r past (a.put o.dst v) w
 | (i,_+2)::r,past,a,w=>wpOp P l.toArray Q i (fun a' w'=>((past||i == k)=true∨S w')∧Cr P l Q k S n r (past||i == k) a' w') a w
def Ux (md:Region.Mode) (ops:Array Oper) (k i:Nat):Bool:=match ops[k]? with
 | none=>false
 | some o=>o.after.any (fun e=>Region.binds md e&&(e.on == i))
def Hm (md:Region.Mode) (ops:Array Oper) (k n:Nat):List (Nat×Nat)→Array Bool→Bool
 | [],listed=>Region.seqB md ops (ops.size-n) n listed
 | (i,0)::r,listed=>decide (i<n)&&(i != k)&&(Region.ready md ops listed).contains i&&Region.free md ops listed i&&Hm md ops k n r (listed.setIfInBounds i true)
 | (i,1)::r,listed=>decide (i<n)&&(i != k)&&Ux md ops k i&&(Region.ready md ops listed).contains i&&Region.free md ops listed i&&Hm md ops k n r (listed.setIfInBounds i true)
 | (i,_+2)::r,listed=>decide (i<n)&&decide (Region.ready md ops listed = [i])&&Hm md ops k n r (listed.setIfInBounds i true)
def Mb (md:Region.Mode) (ops:Array Oper) (k n:Nat) (p:List (Nat×Nat)):Bool :=
 Region.noSelect ops&&decide (p.length=n)&&decide (n≤ops.size)&&It md ops n&&Hm md ops k n p (Array.replicate ops.size false)
theorem Mu {listed:Array Bool} {i:Nat} (h:i<listed.size):(listed.setIfInBounds i true).getD i false=true:=by
 simp[Array.getD_eq_getD_getElem?,h]
theorem Dl {l:List Oper} {n:Nat} (hsel:Region.noSelect l.toArray=true) (ht:It md l.toArray n=true) (hQ:∀c a a' w,Q (.panic c) a' w→Q (.panic c) a w) :
 ∀(p:List (Nat×Nat)) (past:Bool) (listed:Array Bool) (a:Act) (w:World),Hm md l.toArray k n p listed=true→HeadInv md l.toArray n listed→(past=true→listed.getD k false=true)→Hk k S listed w→Cr P l Q k S n p past a w →
 wpHeadK P md l.toArray Q (Hk k S) n (fun listed a w=>Region.seqB md l.toArray (l.toArray.size-n) n listed=true∧wpList P l.toArray Q (l.drop n) a w) p.length listed a w
 | [],past,listed,a,w,hB,_,_,_,h=>⟨hB,h⟩
 | (i,0)::r,past,listed,a,w,hB,inv,hp,hS,h=>by
  simp only[Hm,Bool.and_eq_true,decide_eq_true_eq,bne_iff_ne] at hB;obtain⟨⟨⟨⟨hin,hik⟩,hr⟩,hf⟩,hB'⟩:=hB;obtain⟨o,v,ho,hy,h'⟩:=h;have hr':i∈Region.ready md l.toArray listed:=by simpa using hr
  have ho':l.toArray[i]?=some o:=by simpa using ho
  refine Il ho' hik (Region.noSelect_spec hsel) (fun c a w=>hQ c _ _ w) ht hin (fun listed a w hL=>seqB_ready hL.1) (fun _ _ _ _ _=>trivial) r.length listed a w inv (Region.free_spec ho' hf) hr' hy hS ?_;refine Dl hsel ht hQ r past _ _ w hB' (inv.set hr' hin) (fun h=>?_) ((Hk.set hik).2 hS) h';have:=hp h;simp only[Array.getD_eq_getD_getElem?] at this ⊢;rw[Array.getElem?_setIfInBounds_ne hik];exact this
 | (i,1)::r,past,listed,a,w,hB,inv,hp,hS,h=>by
  simp only[Hm,Bool.and_eq_true,decide_eq_true_eq,bne_iff_ne] at hB;obtain⟨⟨⟨⟨⟨hin,hik⟩,hwt⟩,hr⟩,hf⟩,hB'⟩:=hB;obtain⟨o,v,ho,hy,h'⟩:=h;have hr':i∈Region.ready md l.toArray listed:=by simpa using hr
  have ho':l.toArray[i]?=some o:=by simpa using ho
  refine Il ho' hik (Region.noSelect_spec hsel) (fun c a w=>hQ c _ _ w) ht hin (fun listed a w hL=>seqB_ready hL.1) (fun listed w inv hun hT=>?_) r.length listed a w inv (Region.free_spec ho' hf) hr' hy hS ?_
  · rcases hT with hk|hS
    · exfalso
      unfold Ux at hwt;cases hok:l.toArray[k]? with
      | none=>rw[hok] at hwt;cases hwt
      | some ok =>
       rw[hok] at hwt;simp only[Array.any_eq_true,Bool.and_eq_true,beq_iff_eq] at hwt;obtain⟨x,hx,hb,he⟩:=hwt;have:=inv.closed k ok hok hk _ (Array.getElem_mem hx) hb;rw[he,getD_both hun] at this;cases this
    exact hS
  refine Dl hsel ht hQ r past _ _ w hB' (inv.set hr' hin) (fun h=>?_) ((Hk.set hik).2 hS) h';have:=hp h;simp only[Array.getD_eq_getD_getElem?] at this ⊢;rw[Array.getElem?_setIfInBounds_ne hik];exact this
 | (i,_+2)::r,past,listed,a,w,hB,inv,hp,hS,h=>by
  simp only[Hm,Bool.and_eq_true,decide_eq_true_eq] at hB;obtain⟨⟨hin,hr⟩,hB'⟩:=hB;refine⟨by rw[hr];simp,fun j hj=>?_⟩;have hji:j=i:=by rw[hr] at hj;simpa using hj
  subst hji
  have hpast:(past||j == k)=true→(listed.setIfInBounds j true).getD k false=true:=fun h=>by
   by_cases hjk:j=k
   · subst hjk
     refine Mu ?_;obtain⟨_,oj,hoj,_⟩:=mem_ready.1 hj;rw[inv.size];exact(Array.getElem?_eq_some_iff.1 hoj).1
   have:past=true:=by simpa[hjk] using h
   have:=hp this;simp only[Array.getD_eq_getD_getElem?] at this ⊢;rw[Array.getElem?_setIfInBounds_ne hjk];exact this
  refine⟨hin,wpOp_mono (fun a' w' h'=>?_) h⟩;have hT:Hk k S (listed.setIfInBounds j true) w':=h'.1.imp hpast id;exact⟨hT,Dl hsel ht hQ r _ _ a' w' hB' (inv.set hj hin) hpast hT h'.2⟩
theorem KJ {id:Nat} {a:Act} {w:World} {l:List Oper} (k:Nat) (S:World→Prop) (n:Nat) (p:List (Nat×Nat)) (hm:P.follows .mixedOrders=true)
 (hB:Mb .any l.toArray k n p=true) (hQ:∀c a a' w,Q (.panic c) a' w→Q (.panic c) a w) (hS:S w.drew) (h:Cr P l Q k S n p false a w.drew):(Code.region id l.toArray true).wp P Q a w:=by
 simp only[Mb,Bool.and_eq_true,decide_eq_true_eq] at hB;obtain⟨⟨⟨⟨hsel,hlen⟩,hn⟩,ht⟩,hp⟩:=hB
 have inv0:HeadInv .any l.toArray n (Array.replicate l.toArray.size false) :=
  ⟨by simp,fun j oj _ hl=>(by rw[getD_replicate_false] at hl;cases hl),fun t _ ht=>getD_in (by simpa using ht) (getD_replicate_false _ _)⟩
 have H:=Dl (md:=.any) hsel ht hQ p false _ a _ hp inv0 (fun h=>by cases h) (.inr hS) h;refine wp_region_any hm ?_
 have:=GK (g:=l.toArray.size-n) (fun listed a' w' hL=>by
  have hdl:(l.drop n).length=l.toArray.size-n:=by simp
  have:=wpAny_of_seq (md:=.any) (Q':=Q) (l.drop n) n listed a' w' (fun j=>by simp[List.getElem?_drop]) (by rw[hdl];exact hL.1) hL.2
  rwa [hdl] at this) _ _ _ _ H
 rw[hlen,show n+(l.toArray.size-n)=l.toArray.size by omega] at this;exact this
theorem LB {id:Nat} {a:Act} {w:World} {l:List Oper} (k:Nat) (S:World→Prop) (n:Nat) (p:List (Nat×Nat)) (hm:P.follows .mixedOrders=true)
 (hB:Mb .any l.toArray k n p=true) (hS:S w.drew) (h:Cr P l (NoPanic Q) k S n p false a w.drew):(Code.region id l.toArray true).wp P Q a w :=
 wp_region_noPanic (KJ k S n p hm hB (fun _ _ _ _ h=>h.elim) hS h)
theorem L7 {l:List Oper} {n i:Nat} {past:Bool} {r:List (Nat×Nat)} {a:Act} {w:World} {o:Oper} {v:Value} (ho:l[i]?=some o) (hw:Region.wanted o (yielded l.toArray a.tmps)=true)
 (hy:∀w0,(execOp a.eval o).run P w0=.ok (.value v) w0) (h:Cr P l Q k S n r past (a.put o.dst v) w):Cr P l Q k S n ((i,0)::r) past a w :=
 ⟨o,v,ho,.inl ⟨hw,fun w0 _=>hy w0⟩,h⟩
theorem planK_see {l:List Oper} {n i:Nat} {past:Bool} {r:List (Nat×Nat)} {a:Act} {w:World} {o:Oper} {v:Value} (ho:l[i]?=some o) (hw:Region.wanted o (yielded l.toArray a.tmps)=true)
 (hy:∀w0,S w0→(execOp a.eval o).run P w0=.ok (.value v) w0) (h:Cr P l Q k S n r past (a.put o.dst v) w):Cr P l Q k S n ((i,1)::r) past a w :=
 ⟨o,v,ho,.inl ⟨hw,hy⟩,h⟩
theorem Jq {l:List Oper} {n i:Nat} {past:Bool} {r:List (Nat×Nat)} {a:Act} {w:World} {o:Oper} (ho:l[i]?=some o)
 (h:wpList P l.toArray (Exit.then (fun a' w'=>((past||i == k)=true∨S w')∧Cr P l Q k S n r (past||i == k) a' w') Q) [o] a w):Cr P l Q k S n ((i,2)::r) past a w:=by
 show wpOp P l.toArray Q i _ a w
 have ho':l.toArray[i]?=some o:=by simpa using ho
 unfold wpOp;simp only[ho'];unfold wpList at h;split
 · rename_i hw
   rw[if_pos hw] at h;refine h.imp (fun h=>?_) id;unfold Oper.wp at h ⊢;generalize (execOp a.eval o).run P w=r at h ⊢;cases r with
   | ok nx w' =>
    cases nx<;>simp only[Oper.upon,wpList,Exit.then] at h ⊢ <;>
     first
      | exact h
      | exact Calls.mono h (fun e w'' he=>by cases e<;>exact he)
   | halt x w'=>cases x<;>simp only[Oper.upon,Exit.then] at h ⊢ <;> exact h
 rename_i hw;rw[if_neg hw] at h;exact h
theorem MW {l:List Oper} {n i:Nat} {past:Bool} {r:List (Nat×Nat)} {a:Act} {w:World} {o:Oper} (ho:l[i]?=some o) (hw:Region.wanted o (yielded l.toArray a.tmps)=true) (ty:TypeId) (x:Operand) (hop:o.op=.load ty x) (g off m:Nat) (hx:a.eval x=.pointer (some ⟨g,off,none⟩))
 {t:TypeId} {cur:Array Value} {fr:Nat×Nat} {d:TypeDesc} (hg:∀w0,S w0→w0.heap[g]?=some (.cells cur t fr)) (hu:P.underlying ty=some d) (hd:d.isRow=true) (hi:(P.info? ty).map (·.size)=some m) (hfit:off+m≤cur.size) (cs:Array Value) (hv:cur.extract off (off+m)=cs)
 (h:Cr P l Q k S n r past (a.put o.dst (.agg cs)) w):Cr P l Q k S n ((i,1)::r) past a w :=
 planK_see ho hw (fun w0 hS=>by
  unfold execOp;simp only[hop,hx,Instr.loadAt,Instr.sureAddr,Sem.run_bind,Sem.run_pure,Result.andThen_ok,Bc w0 (hg w0 hS) hu hd hi hfit,hv]) h
theorem Td {l:List Oper} {n:Nat} {past:Bool} {a:Act} {w:World} (h:wpList P l.toArray Q (l.drop n) a w):Cr P l Q k S n [] past a w:=h
end
end Go.Proofs.YtngbdbpofifimaaGreat
namespace Go.Proofs.YtngbdbpofifimaaGreat.Law9
open Go.RowKit Go.Proofs.YtngbdbpofifimaaGreat.ShaW Go.Proofs.YtngbdbpofifimaaGreat.Path Go.Proofs.YtngbdbpofifimaaGreat.Store
def pick (x:Int) (n:Nat):Int:=if Int.tmod x n<0 then Int.tmod x n+n else Int.tmod x n
theorem OH (x:Int) {n:Nat} (hn:0<n):0≤pick x n∧pick x n<n:=by
 have h1:=Int.lt_tmod_of_pos x (show(0:Int)<n by omega);have h2:=Int.tmod_lt_of_pos x (show(0:Int)<n by omega);unfold pick;split<;>omega
def cW (out:List Pr) (key:List UInt8) (j:Nat) (x:Int):Prop:=(x = -1∧∀i q,i<j→out[i]?=some q→q.key≠key)∨∃(i:Nat) (q:Pr),i<j∧x=(i:Int)∧out[i]?=some q∧q.key=key
theorem FH {cur:Array Value} {o:Nat} {x:Pr} (hk:x.key.length=32) (h:cur.extract o (o+33)=x.cells):cur.extract o (o+32)=AK x.key∧cur[o+32]?=some x.vv:=by
 have hs:=Pr.size hk;have h':cur.extract o (o+x.cells.size)=x.cells:=by rw[hs];exact h
 exact⟨OX h' (by rw[hs];omega) (Pr.BX hk),PU h' (Pr.Hc hk)⟩
theorem Fu:(Tryz.prog.info? 86).map (·.size)=some 33:=by kernel_rfl
theorem IS:∃i z,Tryz.prog.info? 86=some i∧i.zero=some z∧i.size=33∧i.bytes=56∧z.cells.size=33:=by
 obtain⟨i,h1,h2,h3,h4⟩:=info_parts (P:=Tryz.prog) (e:=86) (z:=.agg (List.replicate 32 (Value.int .u8 0) ++ [Value.slice none 0 0]).toArray) (size:=33) (bytes:=56) (by kernel_rfl);exact⟨i,_,h1,h2,h3,h4,rfl⟩
end Go.Proofs.YtngbdbpofifimaaGreat.Law9
