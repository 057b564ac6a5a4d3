/- Laws of the layers below. -/
import Derived.Test.YtngbdbpofifimaaGreatQl39
import Derived.Test.YtngbdbpofifimaaGreatQl38
set_option maxHeartbeats 3200000
set_option maxRecDepth 100000
set_option linter.unusedVariables false
namespace Go.Proofs.YtngbdbpofifimaaGreat.Store
open Go.RowKit Go.Proofs.YtngbdbpofifimaaGreat.ShaW Go.Proofs.YtngbdbpofifimaaGreat.Path
theorem Jt {P:Program} {w:World} {e:TypeId} {N C:Array Value} {off n:Nat} (ha:(isAgg e).run P w=.ok true w) (hs:(Go.sizeOf e).run P w=.ok n w) (hv:N.extract off (off+n)=C):(Go.part e N off).run P w=.ok (.agg C) w:=by
 unfold Go.part;simp only[Sem.run_bind,Result.andThen_ok,ha];simp[hv,hs,go_sem]
theorem WD {P:Program} {w:World} {e:TypeId} {N:Array Value} {off:Nat} {v:Value} (ha:(isAgg e).run P w=.ok false w) (hv:N[off]?=some v):(Go.part e N off).run P w=.ok v w:=by
 unfold Go.part;simp only[Sem.run_bind,Result.andThen_ok,ha,hv];simp[go_sem]
theorem Ir {P:Program} {w:World} {d:Nat} {xs ys:Array Value}:∀(fs:List Field),(∀f∈fs,∃a b,(Go.part f.type xs f.offset).run P w=.ok a w∧(Go.part f.type ys f.offset).run P w=.ok b w∧(Op.equalIn d f.type a b).run P w=.ok true w)→(Op.eqFields d xs ys fs).run P w=.ok true w
 | [],_=>by simp[Op.eqFields]
 | f::fs,h=>by
  obtain⟨a,b,h1,h2,h3⟩:=h f (List.mem_cons_self ..);have ih:=Ir (P:=P) (w:=w) (d:=d) (xs:=xs) (ys:=ys) fs (fun g hg=>h g (List.mem_cons_of_mem _ hg));unfold Op.eqFields;split
  · simp only[Sem.run_bind,h1,Result.andThen_ok,h2,h3]
    simpa using ih
  exact ih
theorem N5:(Tryz.prog.fieldsOf 92).toList.map (fun f=>(f.type,f.offset)) = [(90,0),(47,1),(35,33),(35,65),(35,97)]:=by kernel_rfl
theorem Wl {X:Array Value} {k:Int} {a b c d:List UInt8} (h0:X[0]?=some (.int .u8 k)) (h1:X.extract 1 33=AK a) (h2:X.extract 33 65=AK b) (h3:X.extract 65 97=AK c) (h4:X.extract 97 129=AK d) (ha:a.length=32) (hb:b.length=32) (hc:c.length=32) (hd:d.length=32) (w:World) :
 (Go.binOp BinOp.eql 92 (.agg X) (.agg X)).run Tryz.prog w=.ok (.bool true) w:=by
 obtain⟨i,hi⟩:∃i,Tryz.prog.info? 5=some i:=Option.isSome_iff_exists.1 (by kernel_rfl)
 have hP:∀(l:List UInt8),l.length=32→(Op.equalIn 9999 47 (.agg (AK l)) (.agg (AK l))).run Tryz.prog w=.ok true w:=fun l hl=>by
  have:=Dn w 47 5 32 .u8 i Tryz.underlying47 hi (by kernel_rfl) (by kernel_rfl) Tryz.underlying5 9997 l l hl hl;simpa using this
 have hH:∀(l:List UInt8),l.length=32→(Op.equalIn 9999 35 (.agg (AK l)) (.agg (AK l))).run Tryz.prog w=.ok true w:=fun l hl=>by
  have:=Dn w 35 5 32 .u8 i Tryz.underlying35 hi (by kernel_rfl) (by kernel_rfl) Tryz.underlying5 9997 l l hl hl;simpa using this
 have sP:(Go.sizeOf 47).run Tryz.prog w=.ok 32 w:=by
  obtain⟨j,hj,hs⟩:=Option.map_eq_some_iff.1 AY;have:=run_sizeOf (P:=Tryz.prog) w hj;rw[show Tryz.prog.cellsOf 47=32 by kernel_rfl] at this;exact this
 have sH:(Go.sizeOf 35).run Tryz.prog w=.ok 32 w:=by
  obtain⟨j,hj,hs⟩:=Option.map_eq_some_iff.1 Bl;have:=run_sizeOf (P:=Tryz.prog) w hj;rw[show Tryz.prog.cellsOf 35=32 by kernel_rfl] at this;exact this
 rw[run_eql_struct,run_equalIn_struct w 9999 _ X X (by have h:=Tryz.underlying92;simp only[Program.fieldsOf,h]) (by kernel_rfl)];rw[Ir (P:=Tryz.prog) (w:=w) (d:=9999) (xs:=X) (ys:=X) _ (fun f hf=>?_)]
 · rfl
 have hm:(f.type,f.offset)∈(Tryz.prog.fieldsOf 92).toList.map (fun f=>(f.type,f.offset)):=List.mem_map.2 ⟨f,hf,rfl⟩;rw[N5] at hm;generalize f.type=ft,f.offset=fo at hm ⊢;simp only[List.mem_cons,Prod.mk.injEq,List.not_mem_nil,or_false] at hm;rcases hm with⟨rfl,rfl⟩|⟨rfl,rfl⟩|⟨rfl,rfl⟩|⟨rfl,rfl⟩|⟨rfl,rfl⟩
 · have hp:=WD (P:=Tryz.prog) (w:=w) (e:=90) (N:=X) (off:=0) (by kernel_rfl) h0
   exact⟨_,_,hp,hp,by rw[run_equalIn_int w 9998 90 .u8 .u8 k k Tryz.underlying90];simp⟩
 · have hp:=Jt (P:=Tryz.prog) (w:=w) (e:=47) (N:=X) (off:=1) (by kernel_rfl) sP h1
   exact⟨_,_,hp,hp,hP a ha⟩
 · have hp:=Jt (P:=Tryz.prog) (w:=w) (e:=35) (N:=X) (off:=33) (by kernel_rfl) sH h2
   exact⟨_,_,hp,hp,hH b hb⟩
 · have hp:=Jt (P:=Tryz.prog) (w:=w) (e:=35) (N:=X) (off:=65) (by kernel_rfl) sH h3
   exact⟨_,_,hp,hp,hH c hc⟩
 have hp:=Jt (P:=Tryz.prog) (w:=w) (e:=35) (N:=X) (off:=97) (by kernel_rfl) sH h4;exact⟨_,_,hp,hp,hH d hd⟩
def WE (k:Nat) (a b c d:List UInt8):List Value:=.int .u8 (k:Nat)::(a.map bv++(b.map bv++(c.map bv++d.map bv)))
def CG (k:Nat) (a b c d:List UInt8):Array Value:=(WE k a b c d).toArray
theorem ON:CP=CG 0 Nd.z32 Nd.z32 Nd.z32 Nd.z32:=by kernel_rfl
theorem EO {k:Nat} {a b c d:List UInt8} (ha:a.length=32) (hb:b.length=32) (hc:c.length=32) (hd:d.length=32):(CG k a b c d).size=129:=by simp[CG,WE,ha,hb,hc,hd]
theorem GL (k:Nat) (a b c d:List UInt8):∀v∈(CG k a b c d).toList,v.oneCell'=true:=fun v hv=>by
 simp only[CG,WE,List.mem_cons,List.mem_append,List.mem_map] at hv;rcases hv with rfl|⟨_,_,rfl⟩|⟨_,_,rfl⟩|⟨_,_,rfl⟩|⟨_,_,rfl⟩<;>rfl
theorem TL {k:Nat} {a b c d:List UInt8} (ha:a.length=32) (hb:b.length=32) (hc:c.length=32) (hd:d.length=32) (w:World) :
 (Go.binOp BinOp.eql 92 (.agg (CG k a b c d)) (.agg (CG k a b c d))).run Tryz.prog w=.ok (.bool true) w:=by
 have ex:∀(p q s:List Value) (n m:Nat),p.length=n→q.length=m-n→((p++(q++s)).toArray.extract n m)=q.toArray:=fun p q s n m hp hq=>by
  apply Array.ext';rw[Array.toList_extract,List.extract_eq_take_drop]
  show((p++(q++s)).drop n).take (m-n)=q
  rw[←hp,List.drop_left,hp, ←hq,List.take_left]
 refine Wl (k:=(k:Int)) (a:=a) (b:=b) (c:=c) (d:=d) rfl ?_ ?_ ?_ ?_ ha hb hc hd w
 · exact ex [.int .u8 (k:Nat)] (a.map bv) _ 1 33 rfl (by simp[ha])
 · have:=ex (.int .u8 (k:Nat)::a.map bv) (b.map bv) (c.map bv++d.map bv) 33 65 (by simp[ha]) (by simp[hb])
   exact this
 · have:=ex (.int .u8 (k:Nat)::(a.map bv++b.map bv)) (c.map bv) (d.map bv) 65 97 (by simp[ha,hb]) (by simp[hc])
   rw[List.cons_append,List.append_assoc] at this;exact this
 have:=ex (.int .u8 (k:Nat)::(a.map bv++(b.map bv++c.map bv))) (d.map bv) [] 97 129 (by simp[ha,hb,hc]) (by simp[hd]);rw[List.cons_append,List.append_assoc,List.append_assoc,List.append_nil] at this;exact this
end Go.Proofs.YtngbdbpofifimaaGreat.Store
namespace Go.Proofs.YtngbdbpofifimaaGreat.Store
open Go.RowKit Go.Proofs.YtngbdbpofifimaaGreat.ShaW Go.Proofs.YtngbdbpofifimaaGreat.Path Go.Proofs.YtngbdbpofifimaaGreat.Law9
theorem CQ {P:Program} {w:World} {ops:Array Oper} {rest:List Oper} {o:Oper} {a:Act} {Q:Exit→Act→World→Prop} (hgd:o.guard=none) (t i j k:Nat) (x y z:Operand) (ho:o.op=.build t #[(i,x),(j,y),(k,z)])
 (vx vy vz:Value) (hx:a.eval x=vx) (hy:a.eval y=vy) (hz:a.eval z=vz) (cells:Array Value) (hf:P.built t [(i,vx),(j,vy),(k,vz)]=some cells) (h:wpList P ops Q rest (a.put o.dst (.agg cells)) w):wpList P ops Q (o::rest) a w :=
 wpList_build_is hgd t #[(i,x),(j,y),(k,z)] ho cells (by simpa[hx,hy,hz] using hf) h
theorem Kg:∃i fs,Tryz.prog.info? 92=some i∧i.zero=some (.agg CP)∧Tryz.prog.underlying 92=some (.struct fs) ∧
 fs.toList.mapM (fun f=>(Tryz.prog.info? f.type).map fun i=>(f.offset,i.size))=some [(0,1),(1,32),(33,32),(65,32),(97,32)]:=by
 obtain⟨i,hi⟩:∃i,Tryz.prog.info? 92=some i:=Option.isSome_iff_exists.1 (by kernel_rfl);have hz:=B6.1;rw[hi] at hz;exact⟨i,_,hi,hz,Tryz.underlying92,by kernel_rfl⟩
theorem Bf {p q s v:List Value} {n:Nat} (hp:p.length=n) (hq:q.length=v.length):splice (p++(q++s)) n v=p++(v++s):=by
 unfold splice;rw[←hp,List.take_left, ←hq,List.drop_append,Nat.add_sub_cancel_left,List.drop_of_length_le (by omega),List.nil_append,List.drop_left,List.append_assoc]
def zb:List Value:=Nd.z32.map bv
theorem Cz:zb.length=32:=rfl
theorem SC:splice CP.toList 0 [Value.int .u8 1] = [Value.int .u8 1]++(zb++(zb++(zb++zb)))∧splice CP.toList 0 [Value.int .u8 2] = [Value.int .u8 2]++(zb++(zb++(zb++zb))):=⟨by kernel_rfl,by kernel_rfl⟩
theorem Hf (K V:List UInt8) (hK:K.length=32) (hV:V.length=32) :
 Tryz.prog.built 92 [(0,.int .u8 1),(1,.agg (AK K)),(2,.agg (AK V))]=some (CG 1 K V Nd.z32 Nd.z32):=by
 obtain⟨i,fs,h1,h2,h3,h4⟩:=Kg;have hzs:CP.size=129:=rfl;unfold Program.built;rw[h1,h3];simp only[h2,h4]
 show Instr.fill _ CP _=_
 rw[Ai (off:=0) (size:=1) rfl rfl (by rw[hzs];omega)];have e1:(Value.int IntKind.u8 1).cells.toList = [Value.int .u8 1]:=rfl;rw[e1,SC.1];rw[Ai (off:=1) (size:=32) rfl (by simp[Value.cells,AN,hK]) (by simp[Cz])];have e2:(Value.agg (AK K)).cells.toList=K.map bv:=by simp[Value.cells,AK]
 rw[e2]
 show Instr.fill _ (splice ([Value.int .u8 1]++(zb++(zb++(zb++zb)))) 1 (K.map bv)).toArray _=_
 rw[Bf (p := [Value.int .u8 1]) (n:=1) rfl (by rw[Cz,List.length_map,hK])];rw[Ai (off:=33) (size:=32) rfl (by simp[Value.cells,AN,hV]) (by simp[Cz,hK])];have e3:(Value.agg (AK V)).cells.toList=V.map bv:=by simp[Value.cells,AK]
 rw[e3]
 show some (splice ([Value.int .u8 1]++(K.map bv++(zb++(zb++zb)))) 33 (V.map bv)).toArray=_
 rw[←List.append_assoc,Bf (by simp[hK]) (by rw[Cz,List.length_map,hV]),List.append_assoc];rfl
theorem KT (L R:List UInt8) (hL:L.length=32) (hR:R.length=32) :
 Tryz.prog.built 92 [(0,.int .u8 2),(3,.agg (AK L)),(4,.agg (AK R))]=some (CG 2 Nd.z32 Nd.z32 L R):=by
 obtain⟨i,fs,h1,h2,h3,h4⟩:=Kg;have hzs:CP.size=129:=rfl;unfold Program.built;rw[h1,h3];simp only[h2,h4]
 show Instr.fill _ CP _=_
 rw[Ai (off:=0) (size:=1) rfl rfl (by rw[hzs];omega)];have e1:(Value.int IntKind.u8 2).cells.toList = [Value.int .u8 2]:=rfl;rw[e1,SC.2];rw[Ai (off:=65) (size:=32) rfl (by simp[Value.cells,AN,hL]) (by simp[Cz])];have e2:(Value.agg (AK L)).cells.toList=L.map bv:=by simp[Value.cells,AK]
 rw[e2]
 show Instr.fill _ (splice ([Value.int .u8 2]++(zb++(zb++(zb++zb)))) 65 (L.map bv)).toArray _=_
 rw[show [Value.int .u8 2]++(zb++(zb++(zb++zb)))=([Value.int .u8 2]++(zb++zb))++(zb++zb) by simp only[List.append_assoc],Bf (by simp[Cz]) (by rw[Cz,List.length_map,hL])];rw[Ai (off:=97) (size:=32) rfl (by simp[Value.cells,AN,hR]) (by simp[Cz,hL])];have e3:(Value.agg (AK R)).cells.toList=R.map bv:=by simp[Value.cells,AK]
 rw[e3]
 show some (splice (([Value.int .u8 2]++(zb++zb))++(L.map bv++zb)) 97 (R.map bv)).toArray=_
 rw[show([Value.int .u8 2]++(zb++zb))++(L.map bv++zb)=([Value.int .u8 2]++(zb++(zb++L.map bv)))++(zb ++ []) by simp only[List.append_assoc,List.append_nil],Bf (by simp[Cz,hL]) (by rw[Cz,List.length_map,hR])];simp only[List.append_assoc,List.append_nil];rfl
def L6 (σ:AD Nd) (n:Int):Array Value :=
 if (nd σ n).kind=1 then CG 1 (nd σ n).key (nd σ n).hash Nd.z32 Nd.z32 else if (nd σ n).kind=2 then CG 2 Nd.z32 Nd.z32 (Ar σ (nd σ n).left) (Ar σ (nd σ n).right) else CP
end Go.Proofs.YtngbdbpofifimaaGreat.Store
namespace Go.Proofs.YtngbdbpofifimaaGreat.Law15
open Go.RowKit Go.Sort Go.Proofs.YtngbdbpofifimaaGreat.ShaW Go.Proofs.YtngbdbpofifimaaGreat.Path Go.Proofs.YtngbdbpofifimaaGreat.Store Go.Proofs.YtngbdbpofifimaaGreat.Law9 Go.Proofs.YtngbdbpofifimaaGreat.Law14
theorem KH {P:Program} {t:TypeId} {it:TypeInfo} {Z:Array Value} {fields:Array Field} (hi:P.info? t=some it) (hz:it.zero=some (.agg Z)) (hu:P.underlying t=some (.struct fields))
 (hp:fields.toList.mapM (fun f=>(P.info? f.type).map fun i=>(f.offset,i.size))=some [(0,32),(32,1),(33,1)]) (hs:Z.size=34) (T:Array Value) (u v:Value) (hT:T.size=32) (hu2:u.cells=#[u]) (hv:v.cells=#[v]) :
 P.built t [(0,.agg T),(1,u),(2,v)]=some (T++#[u,v]):=by
 have hTl:T.toList.length=32:=by rw[Array.length_toList];exact hT
 have hzl:Z.toList.length=34:=by rw[Array.length_toList];exact hs
 unfold Program.built;rw[hi,hu];simp only[hz,hp];have hsl:(splice Z.toList 0 T.toList).length=34:=by rw[Cd _ _ _ (by omega)];exact hzl
 have hsl2:(splice (splice Z.toList 0 T.toList) 32 [u]).length=34:=by rw[Cd _ _ _ (by rw[hsl];simp)];exact hsl
 rw[Ai (v:=.agg T) (off:=0) (size:=32) rfl hT (by show 0+32≤Z.size;omega),Ai (v:=u) (off:=32) (size:=1) rfl (by rw[hu2];rfl) (by show 32+1≤((splice Z.toList 0 T.toList).toArray).size;rw[List.size_toArray,hsl];omega)];rw[hu2];rw[Ai (v:=v) (off:=33) (size:=1) rfl (by rw[hv];rfl) (by show 33+1≤((splice (splice Z.toList 0 T.toList) 32 [u]).toArray).size;rw[List.size_toArray,hsl2];omega)];simp only[Instr.fill,Option.some.injEq];apply Array.ext';rw[hv]
 show splice (splice (splice Z.toList 0 T.toList) 32 [u]) 33 [v]=(T++#[u,v]).toList
 rw[Array.toList_append]
 have e1:splice Z.toList 0 T.toList=T.toList++Z.toList.drop 32:=by
  unfold splice;rw[List.take_zero,List.nil_append,hTl]
 have e2:splice (T.toList++Z.toList.drop 32) 32 [u]=T.toList++(u::Z.toList.drop 33):=by
  unfold splice;rw[List.take_left' hTl,List.drop_append,hTl,List.drop_eq_nil_of_le (by rw[hTl];simp),List.nil_append,List.drop_drop,List.append_assoc];rfl
 have e3:(Z.toList.drop 33).length=1:=by rw[List.length_drop,hzl]
 rw[e1,e2,show T.toList++u::Z.toList.drop 33=(T.toList ++ [u])++Z.toList.drop 33 by simp];have e4:(T.toList ++ [u]).length=33:=by rw[List.length_append,hTl];rfl
 unfold splice;have h5:List.drop (33 + [v].length) (T.toList ++ [u]) = []:=List.drop_eq_nil_of_le (by rw[e4];simp);have h6:List.drop (33 + [v].length-33) (Z.toList.drop 33) = []:=List.drop_eq_nil_of_le (by rw[e3];simp);rw[List.take_left' e4,List.drop_append,h5,e4,h6];simp
theorem Sq (T:Array Value) (u v:Value) (hT:T.size=32) (hu2:u.cells=#[u]) (hv:v.cells=#[v]):Tryz.prog.built 134 [(0,.agg T),(1,u),(2,v)]=some (T++#[u,v]):=by
 obtain⟨i,h1,h2,h3,h4⟩:=info_parts (P:=Tryz.prog) (e:=134) (z:=.agg I1.cells) (size:=34) (bytes:=64) (by kernel_rfl);exact KH h1 h2 Tryz.underlying134 (by kernel_rfl) (Wm.size rfl) T u v hT hu2 hv
def WU:Array Value:=#[.slice none 0 0,.bool false,.slice none 0 0]
theorem Xr:(Tryz.prog.info? 131).bind (·.zero)=some (.agg WU):=by kernel_rfl
theorem SG:(Tryz.prog.info? 131).map (·.size)=some 3:=by kernel_rfl
def Ay.wm (x:Ay):Wm:=⟨x.kb,x.gone,x.vv,x.vb⟩
theorem Ay.Gr {w:World} {x:Ay} (h:x.Good w) (hk:x.kb.length=32):x.wm.Good w:=⟨hk,h.val,h.vblk⟩
theorem Ow.old {w0 w:World} {s:Nat} {σ:AD Nd} {G:Nat→Prop} (h:Ow w0 w s σ G):Ow w0 w s σ (fun k=>G k∨k<w0.heap.size):=by
 obtain⟨F,h1,h2,h3,h4⟩:=h;refine⟨F,h1,h2,h3,fun k hk=>?_⟩;rcases hk with hk|hk
 · exact h4 k hk
 exact⟨fun hf=>by have:=h2 k hf;omega,Nat.lt_of_lt_of_le hk h3.size⟩
def VD (σ:AD Nd) (l:List Ay) (L L':AS) (er:Int):Prop :=
 (er=3∧(∃x∈l,x.kb.length≠32)∧L'=L)∨((∀x∈l,x.kb.length=32)∧∃n,er=DB σ (l.map Ay.wm) n∧(er≠4→∃l',Ce (l.map Ay.wm) l'∧n=l'.length) ∧
  ((er≠0∧L'=L)∨(er=0∧∃l',Ce (l.map Ay.wm) l'∧L'=CT L (l'.map Wm.wp))))
def Yz (σ σ':AD Nd) (l:List Ay) (er:Int):Prop:=(er≠0∧σ'=σ)∨(er=0∧∃l',Ce (l.map Ay.wm) l'∧Store.live σ'≤Store.live σ+258*l'.length)
def SF (w0 w:World) (d v s:Nat) (G:Nat→Prop) (room:Nat) (σ:AD Nd) (L:AS) (M:Nmd) (tn n:Nat) (l:List Ay) (e:Ending) (w':World):Prop :=
 ∃er σ' r L',e=.returned (.int .i64 er)∧DStep w0 w w' d v s G room σ σ' r L' M tn n∧VD σ l L L' er∧Yz σ σ' l er
def YU (w0 w:World) (d v s:Nat) (G:Nat→Prop) (room:Nat) (σ:AD Nd) (L:AS) (M:Nmd) (tn n:Nat) (l:List Ay) (e:Ending) (w':World):Prop :=
 ∃er σ' r L',e=.returned (.int .i64 er)∧DStep w0 w w' d v s G room σ σ' r L' M tn n∧VD σ l L L' er
section
variable {w0 w w' : World} {d v s room tn : Nat} {G : Nat→Prop} {σ σ' : AD Nd} {root r : Int} {L L' : AS} {M M' : Nmd} {R : List (Int×AS)}
theorem DBatch_in (h:Dct w0 w d v s G room σ root L M tn) {ao:Option Addr} {l:List Ay} (cap:Nat) (hlw:Ge w ao l) (hl:∀x∈l,x.vb ≠ []→∀b,x.vv.ownBlock=some b→b<w0.heap.size) (hnl:l.length*56≤140737488351232) (htn:tn≤500000000) :
 Calls Tryz.prog 15 #[.pointer (some ⟨d,0,none⟩),.slice ao l.length cap] w (SF w0 w d v s G room σ L M tn (258*l.length) l):=by
 have hw0:=h.world;obtain⟨len,hlen⟩:∃len,len=l.length:=⟨_,rfl⟩
 obtain⟨Z,hZ⟩:∃Z,Z=AK (List.replicate 32 0):=⟨_,rfl⟩
 have hzd:=Ef;have hZs:Z.size=32:=by rw[hZ];rfl
 rw[←hZ] at hzd;have hdn:=FB h;obtain⟨ZR,hZR⟩:∃Z,Z=WU:=⟨_,rfl⟩
 have hzr:=Xr;have hzrs:ZR.size=3:=by rw[hZR];rfl
 rw[←hZR] at hzr;have HZR:=(hIq hzr hzrs)
 have HN:=Lib.hid hdn;have HZ:=(hIq hzd hZs)
 have HH:=(hIq h (aIq hl (aIq hlw htn)))
 have HL:=(hIq hlen hnl)
 rw[←hlen];clear hzr hzrs hZR hzd hZs hZ hdn hw0 hlw h hl htn hlen hnl;go_enter Tryz.func15,Tryz.ntmps15;go_wp2_with fail;refine HN.out.mono ?_;rintro e w1 ⟨rfl,rfl⟩;go_wp2_with fail;go_loopg [5,7,8,9,16] len (fun g s5 s7 s8 s9 s16 wr=>∃k:Nat,s16=.int .i64 k∧k+g=len∧(∀x∈l.take k,x.kb.length=32)∧UK w wr s5 ((l.take k).map Ay.wm))
 case atStart=>exact⟨0,rfl,by omega,fun x hx=>(by cases hx),⟨Ck.nil _ _,Ch.refl _ _⟩⟩
 obtain⟨k,rfl,hk,h32,hst⟩:=hrel;obtain⟨oo,oc,rfl⟩:=hst.row.form;have HS:=Lib.hid hst;obtain⟨all,hall⟩:∃all,all=(l.take k).map Ay.wm:=⟨_,rfl⟩
 have hkm:k≤l.length:=by have:=HL.out;omega
 have hal:all.length=k:=by rw[hall,List.length_map,List.length_take];omega
 rw[←hall,hal] at HS ⊢;have HALL:=(hIq hall hal)
 have HK:=(hIq hk (aIq h32 hkm))
 have hgood:∀x∈all,x.Good w:=fun y hy=>by
  rw[hall] at hy;obtain⟨x,hx,rfl⟩:=List.mem_map.1 hy;exact Ay.Gr (HH.out.2.2.1.good x (List.mem_of_mem_take hx)) (h32 x hx)
 have HG:=Lib.hid hgood;by_cases hkl:k=len
 · have hx1:decide ((k:Int)<(len:Int))=false:=decide_eq_false (by omega)
   have hx1':decide (k<len)=false:=decide_eq_false (by omega);rw[List.take_of_length_le (by have:=HL.out.1;omega)] at h32;have hall2:all=l.map Ay.wm:=by rw[hall,List.take_of_length_le (by have:=HL.out.1;omega)]
   have hA:=HS.out.world;have hrow:=HS.out.row;have hso:EZ Wm.cells 34 all:=fun x hx=>Wm.size (hgood x hx).key
   have hrow':=hrow;unfold Ck at hrow';obtain⟨m,ho,hst2⟩:=HH.out.1.vs.step;have ho2:=(Ow.old ho).more (w':=wr.drew) hA.drew (G':=fun k=>(GF v m (fun k=>k=d∨G k) k∨k<w0.heap.size)∨(w.heap.size≤k∧k<wr.heap.size)) (fun k hk=>hk)
   have hwm:WmsG (fun k=>(GF v m (fun k=>k=d∨G k) k∨k<w0.heap.size)∨(w.heap.size≤k∧k<wr.heap.size)) wr.drew oo all:=by
    rw[←hal] at hrow;obtain⟨ra,rc,re,rrow,rcap⟩:=hrow.row hso (by decide);injection re with re1 re2 re3;subst re1;refine⟨⟨fun x hx=>(hgood x hx).Af hA.drew (fun _=>fEq),rrow.Af (Ch.refl (fun _=>False) wr).drew (fun _=>fEq)⟩,fun h0=>?_,fun x hx h0 b hb=>.inl (.inr ?_)⟩
    · obtain⟨g,cp,cu,e1,e2,_,e3,_⟩:=hrow.open hso (List.length_pos_iff.2 h0)
      injection e1 with e1;exact⟨_,e1,.inr ⟨e2,Ac e3⟩⟩
    rw[hall2] at hx;obtain⟨y,hy,rfl⟩:=List.mem_map.1 hx;exact HH.out.2.1 y hy h0 b hb
   have hap:=O7 (cap:=oc) ho2 HH.out.1.rts hwm (by have:=HH.out.1.total;have:=HH.out.2.2.2;omega);rw[hal] at hap;have hd2:=(HH.out.1.adds hA).cell;have HP:=(hIq hap (aIq (@hst2) (aIq hd2 hA)))
   have H32:=(hIq h32 hall2)
   clear hk h32 hst hall hkm hall2 hA hrow hso hrow' ho ho2 hst2 hwm hap hd2 hgood hal hkl;go_wp2;refine AO (fun w0=>w0.heap[d]?=some (.cells (Od v s root) 115 (0,0))) 15 [(0,false),(1,false),(2,false),(3,false),(4,false),(5,false),(6,false),(7,false),(8,false),(9,true),(10,false),(11,false),(12,false),(13,false),(14,false)] (by kernel_rfl) (by kernel_rfl) ?_ ?_
   · exact AP HP.out.2.2.1
   iterate 3
    iterate 1 refine plan_look rfl rfl (fun w0 hS=>(by go_simp;try rfl)) ?_
    simp only[Act.put,nAq,nBq,nCq]
   refine plan_look (v:=.pointer (some ⟨s,0,none⟩)) rfl rfl (fun w0 hS=>(by have e0:w0.cell? ⟨d,1,none⟩=some (.pointer (some ⟨s,0,none⟩)):=AH hS rfl;clear hS;go_simp;try rfl)) ?_;simp only[Act.put,nAq,nBq,nCq]
   iterate 3
    iterate 1 refine plan_look rfl rfl (fun w0 hS=>(by go_simp;try rfl)) ?_
    simp only[Act.put,nAq,nBq,nCq]
   refine plan_look (v:=.int .i64 root) rfl rfl (fun w0 hS=>(by have e0:w0.cell? ⟨d,2,none⟩=some (.int .i64 root):=AH hS rfl;clear hS;go_simp;try rfl)) ?_;simp only[Act.put,nAq,nBq,nCq]
   iterate 1 refine plan_look rfl rfl (fun w0 hS=>(by go_simp;try rfl)) ?_
   simp only[Act.put,nAq,nBq,nCq];refine AV rfl ?_;go_wp2_with fail;refine HP.out.1.mono ?_;rintro e w3 ⟨r,σ',n,rfl,o3,b3,hn3,hc3⟩;obtain⟨pe,hpe⟩:∃pe,pe=DB σ all n:=⟨_,rfl⟩
   have hb3:=(Adds.but (G:=GF v m (fun k=>k=d∨G k)) HP.out.2.2.2.drew).then (b3.less (fun _ h=>.inl (.inl h)));obtain⟨v3,c3⟩:=HP.out.2.1 (o3.less (fun _ h=>.inl (.inl h))) hb3;have r3:=c3.row HH.out.1.cell (.inl rfl);rw[←hpe] at hn3 hc3 ⊢;rw[H32.out.2] at hn3 hc3 hpe;have H3:=(hIq v3 (aIq c3 (aIq hc3 r3)))
   have HPE:=(hIq hpe hn3)
   clear o3 b3 hc3 hb3 v3 c3 r3 hpe hn3;dsimp only;go_step;refine wpList_nil ?_;change _∧_;refine⟨H3.out.2.2.2,?_⟩
   iterate 5
    refine plan_look rfl rfl (fun w0 hS=>(by clear hS;go_simp;try rfl)) ?_;simp only[Act.put,nAq,nBq,nCq]
   refine AZ ?_;simp only[List.drop_succ_cons,List.drop_zero];go_wp2;refine NoPanic.normal ?_;by_cases h0:pe=0
   · have f3:=Al H3.out.2.2.2 2
     have l3:=Ac H3.out.2.2.2;have c3:w3.cell? ⟨d,2,none⟩=some (.int .i64 root):=AH H3.out.2.2.2 rfl;have HP0:=Lib.hid h0;subst h0;go_wp2;go_ret;obtain⟨_,l',hap⟩:=H3.out.2.2.1.resolve_left (fun h=>h.1 rfl);have hdw:=Dct.write (tn:=tn+60000) H3.out.2.2.2 H3.out.1 hap.rts (hap.room.trans HH.out.1.room) (by have:=hap.total;have:=HH.out.1.total;omega) HH.out.1.base;refine⟨0,σ',r,_,rfl,⟨hdw.1,(H3.out.2.1.less (fun _ h=>.inr h)).then hdw.2,?_⟩,.inr ⟨H32.out.1,n,HPE.out.1,HPE.out.2,.inr ⟨rfl,l',hap.last,rfl⟩⟩,.inr ⟨rfl,l',hap.last,hap.live⟩⟩;have h1:=hap.live;have h2:=hap.last.len;rw[List.length_map] at h2;have:=Nat.mul_le_mul_left 258 h2;have:=HL.out.1;omega
   go_wp2;go_ret;obtain⟨_,_,rfl⟩:=H3.out.2.2.1.resolve_right (fun h=>h0 h.1)
   exact⟨pe,σ',root,L,rfl,⟨(⟨H3.out.2.2.2,H3.out.1,HH.out.1.rts,HH.out.1.room,HH.out.1.total,HH.out.1.base⟩:Dct w0 w3 d v s G room σ' root L M tn).Ik (Nat.le_add_right _ _),H3.out.2.1.less (fun _ h=>.inr h),Nat.le_add_right _ _⟩,
    .inr ⟨H32.out.1,n,HPE.out.1,HPE.out.2,.inl ⟨h0,rfl⟩⟩,.inl ⟨h0,rfl⟩⟩
 have hx1:decide ((k:Int)<(len:Int))=true:=decide_eq_true (by omega);have hx1':decide (k<len)=true:=decide_eq_true (by omega);have hkl':k<l.length:=by have:=HL.out.1;omega
 have hklen:(k:Int)<(len:Int):=by omega
 have hklen':k<len:=by omega
 have hwk:wrap64 ((k:Int)+1)=(k:Int)+1:=by have:=HL.out;unfold wrap64;omega
 obtain⟨x,hx⟩:∃x,l[k]?=some x:=⟨_,List.getElem?_eq_getElem hkl'⟩
 obtain⟨g0,off,rfl,hp⟩:=HH.out.2.2.1.row k x hx;have hg:=HH.out.2.2.1.good x (List.mem_of_getElem? hx);obtain⟨cur,ty,fr,c1,c2,c3⟩:=hp;obtain⟨ko,kc,hkv,_,_⟩:=hg.key.form;obtain⟨xo,xc,hxv,_,_⟩:=hg.val.form;obtain⟨kn,hkn⟩:∃n,n=x.kb.length:=⟨_,rfl⟩
 obtain⟨xn,hxn⟩:∃n,n=x.vb.length:=⟨_,rfl⟩
 obtain⟨gb,hgb⟩:∃gb,gb=x.gone:=⟨_,rfl⟩
 have hcs:x.cells=#[.slice ko kn kc,.bool gb,.slice xo xn xc]:=by unfold Ay.cells;rw[hkv,hxv,hkn,hxn,hgb]
 obtain⟨C,hC⟩:∃C,C=x.cells:=⟨_,rfl⟩
 have hsz:C.size=3:=by rw[hC];rfl
 have hone:∀v∈C.toList,v.oneCell'=true:=by rw[hC,hcs];simp[Value.oneCell']
 have hq0:C[0]?=some (.slice ko kn kc):=by rw[hC,hcs];rfl
 have hq1:C[1]?=some (.bool gb):=by rw[hC,hcs];rfl
 have hq2:C[2]?=some (.slice xo xn xc):=by rw[hC,hcs];rfl
 rw[←hC,hsz] at c2 c3;have hof:=fun w1 (a:Adds w w1)=>Vq (hg.key.Af a (fun _ _ h=>h))
 rw[hkv, ←hkn] at hof;obtain⟨K,hK⟩:∃K,K=AK (Co x.kb):=⟨_,rfl⟩
 have hks:K.size=32:=by rw[hK,AN,Cy]
 have hk1:∀v∈K.toList,v.oneCell'=true:=by rw[hK];exact Ae _
 rw[←hK] at hof;have htk:l.take (k+1)=l.take k ++ [x]:=by rw[List.take_add_one,hx];rfl
 have HC:=(hIq (hst.world.row c1 id) (aIq c2 (aIq c3 (aIq hsz hone))))
 have HQ:=(hIq hq0 (aIq hq1 hq2))
 have HX:=(hIq hx (aIq htk (aIq hg (aIq hxv (aIq hxn hgb)))))
 have HOF:=(hIq hof (aIq hK (aIq hks hk1)))
 clear hk h32 hst hall hkm hal hgood hkl hx hg c1 c2 c3 hkv hxv hkn hxn hgb hcs hof hK hks hk1 htk hC hsz hone hq0 hq1 hq2
 go_upto_region 7 with(first
  | fail
  | ((with_reducible show zOq (.load 131 _));refine AG rfl 131 _ rfl g0 (off+k*3) rfl HC.out.1 Tryz.underlying131 rfl SG (by have:=HC.out.2.1;omega) C HC.out.2.2.1 ?_)
  | ((with_reducible show zOq (.alloc 131));refine AI rfl 131 rfl (.agg ZR) HZR.out.1 ?_;dsimp only[Value.cells];try simp only[World.size_alloc])
  | ((with_reducible show zOq (.store 131 _ _));refine AE rfl 131 _ _ rfl wr.heap.size 0 C rfl rfl (heap_alloc_new _ _) (by rw[SG,HC.out.2.2.2.1]) (by rw[HC.out.2.2.2.1,HZR.out.2];exact Nat.le_refl _) HC.out.2.2.2.2 C (by rw[AJ _ _ (by rw[Array.length_toList,Array.length_toList,HC.out.2.2.2.1,HZR.out.2])]) ?_))
 refine BJ (fun wx hwx=>?_);have ax:Adds wr wx:=by rw[hwx];exact((Ch.refl _ _).alloc _).setRow (.inr (Nat.le_refl _)) _
 have rx:wx.heap[wr.heap.size]?=some (.cells C 131 (0,0)):=by rw[hwx];exact AF (heap_alloc_new wr (.cells ZR 131)) _
 have q0:=AH rx HQ.out.1;have AX:=(hIq (HS.out.world.trans ax (fun _=>fEq)) (aIq ax rx))
 clear ax rx hwx;by_cases h32:x.kb.length=32
 · have e3:DA x.kb=0:=by unfold DA;rw[if_pos h32]
   rw[e3] at HOF;have HE:=Lib.hid h32;clear e3 h32;go_wp2_with fail;refine(HOF.out.1 _ AX.out.1).mono ?_;rintro e w7 ⟨rfl,a7⟩;have A7:=(hIq (AX.out.1.trans a7 (fun _=>fEq)) (aIq (AX.out.2.1.trans a7 (fun _=>fEq)) (a7.row AX.out.2.2 id)))
   clear a7 q0
   go_upto_region 10 with(first
    | fail
    | ((with_reducible show zOq (.alloc 47));refine AI rfl 47 rfl (.agg Z) HZ.out.1 ?_;dsimp only[Value.cells];try simp only[World.size_alloc])
    | ((with_reducible show zOq (.store 47 _ _));refine AE rfl 47 _ _ rfl w7.heap.size 0 K rfl rfl (heap_alloc_new _ _) (by rw[AY,HOF.out.2.2.1]) (by rw[HZ.out.2,HOF.out.2.2.1];exact Nat.le_of_eq (Nat.zero_add _)) HOF.out.2.2.2 K (by rw[AJ _ _ (by rw[Array.length_toList,Array.length_toList,HZ.out.2,HOF.out.2.2.1])]) ?_))
   refine BJ (fun w8 hw8=>?_);have a8:Adds w7 w8:=by rw[hw8];exact((Ch.refl _ _).alloc _).setRow (.inr (Nat.le_refl _)) _
   have r8:w8.heap[w7.heap.size]?=some (.cells K 47 (0,0)):=by rw[hw8];exact AF (heap_alloc_new w7 (.cells Z 47)) K
   have rr:=a8.row A7.out.2.2 id;have q1:=AH rr HQ.out.2.1;have q2:=AH rr HQ.out.2.2;obtain⟨D,hD⟩:∃D,D=x.wm.cells:=⟨_,rfl⟩
   have hwg:=Ay.Gr HX.out.2.2.1 HE.out;have hds:D.size=34:=by rw[hD];exact Wm.size hwg.key
   have hd1:∀v∈D.toList,v.oneCell'=true:=by rw[hD];exact Wm.one hwg
   have hbu:=Sq K (.bool gb) (.slice xo xn xc) HOF.out.2.2.1 rfl rfl
   have hde:K++#[.bool gb,.slice xo xn xc]=D:=by
    have e4:Co x.kb=x.kb:=by unfold Co;rw[if_pos HE.out]
    rw[hD,HOF.out.2.1,e4,HX.out.2.2.2.2.1,HX.out.2.2.2.2.2, ←HX.out.2.2.2.1];apply Array.ext';simp[Wm.cells,AK,Ay.wm]
   rw[hde] at hbu;obtain⟨i0,z0,p1,p2,p3,p4,p5⟩:=LK;have HI:=(hIq p1 (aIq p2 (aIq p3 (aIq p4 p5))))
   have H8:=(hIq (A7.out.1.trans a8 (fun _=>fEq)) (aIq (A7.out.2.1.trans a8 (fun _=>fEq)) (aIq r8 (aIq hds (aIq hd1 (aIq hbu hD))))))
   clear a8 r8 rr hw8 hds hd1 hbu hde hwg hD p1 p2 p3 p4 p5
   go_wp2_with (first
    | fail
    | ((with_reducible show zOq (.load 47 _));refine AG rfl 47 _ rfl w7.heap.size 0 rfl H8.out.2.2.1 Tryz.underlying47 rfl AY (by rw[HOF.out.2.2.1];omega) K (by have:=HOF.out.2.2.1;simp[←this]) ?_)
    | ((with_reducible show zOq (.build 134 _));refine CQ rfl 134 0 1 2 _ _ _ rfl (.agg K) (.bool gb) (.slice xo xn xc) rfl rfl rfl D H8.out.2.2.2.2.2.1 ?_)
    | ((with_reducible show zOq (.buildSlice 132 _ _));refine As rfl 132 _ rfl 134 i0 z0 (.agg D) rfl Tryz.underlying132 HI.out.1 HI.out.2.1 (by rw[HI.out.2.2.1];decide) (by rw[HI.out.2.2.1];decide) (by rw[HI.out.2.2.1];exact H8.out.2.2.2.1) ?_)
    | (at_builtin;refine Ih rfl _ _ 132 rfl 134 i0 z0 34 64 Tryz.underlying132 HI.out.1 HI.out.2.1 HI.out.2.2.1 HI.out.2.2.2.1 HI.out.2.2.2.2 (by decide) (.slice oo k oc) k (BC Wm.cells all) rfl (by have:=(HS.out.row.adds (H8.out.2.1.alloc (.cells D 134))).base (b':=0) (fun _ _=>Nat.zero_le _);rw[HALL.out.2] at this;exact this) ⟨w8.heap.size,0,none⟩ 1 1 D.toList rfl (by rw[Array.length_toList,H8.out.2.2.2.1]) (Cc (heap_alloc_new w8 (.cells D 134))) H8.out.2.2.2.2.1 (by have:=HL.out;have:=HK.out.2.2;unfold maxLen;omega) (by have:=HL.out;have:=HK.out.2.2;omega) ?_;intro v' w4 own' grow' loc'))
   obtain⟨o6,c6,hv6⟩:=Aj own';subst hv6;have hA6:Adds w w4:=(H8.out.1.alloc _).grown grow' (fun j hj=>.inr (HS.out.row.lt j hj).1)
   have H6:RowKit.Hid (UK w w4 (.slice o6 (k+1) c6) ((l.take (k+1)).map Ay.wm)):=Lib.hid ⟨by
    have hfl:BC Wm.cells ((l.take (k+1)).map Ay.wm)=BC Wm.cells all++D.toList:=by rw[HX.out.2.1,List.map_append,CZ,HALL.out.1,H8.out.2.2.2.2.2.2];simp[BC]
    have hln:((l.take (k+1)).map Ay.wm).length=k+1:=by rw[HX.out.2.1,List.map_append, ←HALL.out.1,List.length_append,HALL.out.2];rfl
    unfold Ck;rw[hfl,hln];refine own'.base (fun j hj=>?_);rcases loc' with e|e
    · rw[e] at hj
      exact(HS.out.row.lt j hj).1
    have h1:=e j hj;have h2:=H8.out.1.size;simp at h1;omega,hA6⟩
   have HT:RowKit.Hid (∀y∈l.take (k+1),y.kb.length=32):=Lib.hid (fun y hy=>by
    rw[HX.out.2.1] at hy;rcases List.mem_append.1 hy with hy|hy
    · exact HK.out.2.1 y hy
    rw[List.mem_singleton.1 hy];exact HE.out)
   clear own' grow' loc' hA6;go_wp2_with fail;go_roundg (gk-1)
   case measure=>have:=HK.out.1;omega
   exact⟨k+1,by first|(simp;done)|(simp[hwk];done),by have:=HK.out.1;omega,HT.out,H6.out⟩
 have e3:DA x.kb=3:=by unfold DA;rw[if_neg h32]
 rw[e3] at HOF;have HE:=Lib.hid h32;clear e3 h32;go_wp2_with fail;refine(HOF.out.1 _ AX.out.1).mono ?_;rintro e w7 ⟨rfl,a7⟩;have A7:=Lib.hid (AX.out.1.trans a7 (fun _=>fEq));clear a7 q0
 go_wp2_with (first
  | fail
  | ((with_reducible show zOq (.alloc 47));refine AI rfl 47 rfl (.agg Z) HZ.out.1 ?_;dsimp only[Value.cells];try simp only[World.size_alloc])
  | ((with_reducible show zOq (.store 47 _ _));refine AE rfl 47 _ _ rfl w7.heap.size 0 K rfl rfl (heap_alloc_new _ _) (by rw[AY,HOF.out.2.2.1]) (by rw[HZ.out.2,HOF.out.2.2.1];exact Nat.le_of_eq (Nat.zero_add _)) HOF.out.2.2.2 K (by rw[AJ _ _ (by rw[Array.length_toList,Array.length_toList,HZ.out.2,HOF.out.2.2.1])]) ?_))
 go_ret;exact⟨3,σ,root,L,rfl,HH.out.1.stay ((A7.out.alloc _).setRow (.inr A7.out.size) _) _,.inl ⟨rfl,⟨x,List.mem_of_getElem? HX.out.1,HE.out⟩,rfl⟩,.inl ⟨by decide,rfl⟩⟩
theorem QD (h:Dct w0 w d v s G room σ root L M tn) {ao:Option Addr} {l:List Ay} (cap:Nat) (hl:Ge w0 ao l) (hnl:l.length*56≤140737488351232) (htn:tn≤500000000) :
 Calls Tryz.prog 15 #[.pointer (some ⟨d,0,none⟩),.slice ao l.length cap] w (SF w0 w d v s G room σ L M tn (258*l.length) l) :=
 DBatch_in h cap (hl.Af h.world (fun _=>fEq)) (fun x hx=>(hl.good x hx).vblk) hnl htn
theorem Sk (h:Dct w0 w d v s G room σ root L M tn) {ao:Option Addr} {l:List Ay} (cap:Nat) (hl:Ge w0 ao l) (hnl:l.length*56≤140737488351232) (htn:tn≤500000000) :
 Calls Tryz.prog 15 #[.pointer (some ⟨d,0,none⟩),.slice ao l.length cap] w (YU w0 w d v s G room σ L M tn (258*l.length) l):=(QD h cap hl hnl htn).mono fun e w' ⟨er,σ',r,L',he,hs,hb,_⟩=>⟨er,σ',r,L',he,hs,hb⟩
end
section
variable {w0 w w' : World} {d v s room tn : Nat} {G : Nat→Prop} {σ σ' : AD Nd} {root r : Int} {L L' : AS} {M M' : Nmd} {x key : List UInt8} {a : CE}
def ED (a:CE):Nat:=if a.kind≤1 then 258 else if a.kind=2 then 258*a.l.length else 0
theorem DStep.pre {w1:World} {n m:Nat} (h:DStep w0 w1 w' d v s G room σ σ' r L' M' tn n) (ha:Adds w w1) (hn:n≤m):DStep w0 w w' d v s G room σ σ' r L' M' tn m:=⟨h.dct,(Adds.but ha).then h.but,by have:=h.live;omega⟩
structure Kept (M M':Nmd) (x:List UInt8):Prop where
 stay:∀p∈M,p.1≠x→p∈M'
 only:∀p∈M',p∈M∨p.1=x
 few:M.length≤16→M'.length≤16
 fit:(∀p∈M,DP p.1=true)→∀p∈M',DP p.1=true
theorem Kept.refl (M:Nmd) (x:List UInt8):Kept M M x:=⟨fun _ h _=>h,fun _ h=>.inl h,fun h=>h,fun h=>h⟩
theorem Kept.cut (M:Nmd) (x:List UInt8):Kept M (JZ M x) x:=⟨fun p hp hx=>List.mem_filter.2 ⟨hp,by simpa using hx⟩,fun p hp=>.inl (List.mem_filter.1 hp).1,fun h=>Nat.le_trans (List.length_filter_le _ _) h,fun h p hp=>h p (List.mem_filter.1 hp).1⟩
end
end Go.Proofs.YtngbdbpofifimaaGreat.Law15
namespace Go.Proofs.YtngbdbpofifimaaGreat.Store
open Go.RowKit Go.Proofs.YtngbdbpofifimaaGreat.ShaW Go.Proofs.YtngbdbpofifimaaGreat.Path
open Go.Maps (Keyed keyOf_int_mk)
section
variable {σ : AD Nd} {R : List Int} {k k1 k2 : Wk} {a b x : Int}
def Up (l:List Int):Prop:=∀i x y,l[i]?=some x→l[i+1]?=some y→x<y
structure bX (σ:AD Nd) (la lb lc ld:List Int):Prop where
 small:∀x,x∈la∨x∈lb∨x∈lc∨x∈ld→0≤x∧x≤65536
 both:∀x,x∈lc↔x∈la∨x∈lb
 nodup:lc.Nodup
 upc:Up lc
 upd:Up ld
 lost:∀x∈ld,has σ x=true∧x∉lc
 all:lc.length+ld.length=σ.used
 lenA:la.length≤65536
 lenB:lb.length≤65536
def dB (x:Int) (S:List Int):List Int:=if x∈S then S else x::S
noncomputable abbrev ZY:Value→Option (DataW Value×List MemPlace):=plainElem Tryz.prog 4
end
section
variable {w : World} {s : Nat} {F : Nat→Prop} {σ : AD Nd} {R : List Int} {ao : Option Addr}
def aH (w w':World) (σ:AD Nd) (R:List Int) (pick:Wk→List Int) (e:Ending):Prop :=
 ∃(qo:Option Addr) (qc:Nat) (l:List Int),e=.returned (.tuple #[.slice qo l.length qc,.int .i64 (chk σ R)])∧w'.ownsRow w.heap.size 3 1 (.slice qo l.length qc) l.length (Ta l)∧Adds w w' ∧
  ((chk σ R≠0∧l = [])∨(chk σ R=0∧∃k,XO σ R k.todo.length k∧l=pick k))
end
end Go.Proofs.YtngbdbpofifimaaGreat.Store
namespace Go.Proofs.YtngbdbpofifimaaGreat.Store
open Go.RowKit Go.Proofs.YtngbdbpofifimaaGreat.ShaW Go.Proofs.YtngbdbpofifimaaGreat.Path
section
variable {σ : AD Nd} {R : List (Int×AS)} {l l' : List Int} {k k' : Wk} {x h : Int}
structure dC (σ:AD Nd) (l:List Int):Prop where
 good:Good σ
 held:∀k,k≠0→Store.held σ k=(l.count k:Nat)
theorem ZC {h:Int} {y:Nd×Nat} (hy:σ.get? h=some y):σ.count h=y.2:=by unfold AD.count;rw[hy];rfl
end
end Go.Proofs.YtngbdbpofifimaaGreat.Store
