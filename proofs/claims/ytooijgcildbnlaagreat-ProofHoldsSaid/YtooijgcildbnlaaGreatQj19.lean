/- Laws of the layers below. -/
import Derived.Test.YtooijgcildbnlaaGreatQj18
import Derived.Test.YtooijgcildbnlaaGreatQj16
set_option maxHeartbeats 3200000
set_option maxRecDepth 100000
set_option linter.unusedVariables false
namespace Go.Proofs.YtooijgcildbnlaaGreat.Store
open Go.RowKit Go.Sort Go.Proofs.YtooijgcildbnlaaGreat.ShaW Go.Proofs.YtooijgcildbnlaaGreat.Path
theorem IF {P:Program} {w:World} {e:TypeId} {N C:Array Value} {off n:Nat} (ha:(isAgg e).run P w=.ok true w) (hs:(Go.sizeOf e).run P w=.ok n w) (hv:N.extract off (off+n)=C):(Go.part e N off).run P w=.ok (.agg C) w:=by
 unfold Go.part;simp only[Sem.run_bind,Result.andThen_ok,ha];simp[hv,hs,go_sem]
theorem R0 {P:Program} {w:World} {e:TypeId} {N:Array Value} {off:Nat} {v:Value} (ha:(isAgg e).run P w=.ok false w) (hv:N[off]?=some v):(Go.part e N off).run P w=.ok v w:=by
 unfold Go.part;simp only[Sem.run_bind,Result.andThen_ok,ha,hv];simp[go_sem]
theorem Hd {P:Program} {w:World} {d:Nat} {xs ys:Array Value}:∀(fs:List Field),(∀f∈fs,∃a b,(Go.part f.type xs f.offset).run P w=.ok a w∧(Go.part f.type ys f.offset).run P w=.ok b w∧(Op.equalIn d f.type a b).run P w=.ok true w)→(Op.eqFields d xs ys fs).run P w=.ok true w
 | [],_=>by simp[Op.eqFields]
 | f::fs,h=>by
  obtain⟨a,b,h1,h2,h3⟩:=h f (List.mem_cons_self ..);have ih:=Hd (P:=P) (w:=w) (d:=d) (xs:=xs) (ys:=ys) fs (fun g hg=>h g (List.mem_cons_of_mem _ hg));unfold Op.eqFields;split
  · simp only[Sem.run_bind,h1,Result.andThen_ok,h2,h3]
    simpa using ih
  exact ih
theorem MW:(Tryz.prog.fieldsOf 115).toList.map (fun f=>(f.type,f.offset)) = [(113,0),(24,1),(85,33),(85,65),(85,97)]:=by kernel_rfl
theorem R8 {X:Array Value} {k:Int} {a b c d:List UInt8} (h0:X[0]?=some (.int .u8 k)) (h1:X.extract 1 33=AM a) (h2:X.extract 33 65=AM b) (h3:X.extract 65 97=AM c) (h4:X.extract 97 129=AM d) (ha:a.length=32) (hb:b.length=32) (hc:c.length=32) (hd:d.length=32) (w:World) :
 (Go.binOp BinOp.eql 115 (.agg X) (.agg X)).run Tryz.prog w=.ok (.bool true) w:=by
 obtain⟨i,hi⟩:∃i,Tryz.prog.info? 5=some i:=Option.isSome_iff_exists.1 (by kernel_rfl)
 have hP:∀(l:List UInt8),l.length=32→(Op.equalIn 9999 24 (.agg (AM l)) (.agg (AM l))).run Tryz.prog w=.ok true w:=fun l hl=>by
  have:=DM w 24 5 32 .u8 i Tryz.underlying24 hi (by kernel_rfl) (by kernel_rfl) Tryz.underlying5 9997 l l hl hl;simpa using this
 have hH:∀(l:List UInt8),l.length=32→(Op.equalIn 9999 85 (.agg (AM l)) (.agg (AM l))).run Tryz.prog w=.ok true w:=fun l hl=>by
  have:=DM w 85 5 32 .u8 i Tryz.underlying85 hi (by kernel_rfl) (by kernel_rfl) Tryz.underlying5 9997 l l hl hl;simpa using this
 have sP:(Go.sizeOf 24).run Tryz.prog w=.ok 32 w:=by
  obtain⟨j,hj,hs⟩:=Option.map_eq_some_iff.1 AW;have:=run_sizeOf (P:=Tryz.prog) w hj;rw[show Tryz.prog.cellsOf 24=32 by kernel_rfl] at this;exact this
 have sH:(Go.sizeOf 85).run Tryz.prog w=.ok 32 w:=by
  obtain⟨j,hj,hs⟩:=Option.map_eq_some_iff.1 CK;have:=run_sizeOf (P:=Tryz.prog) w hj;rw[show Tryz.prog.cellsOf 85=32 by kernel_rfl] at this;exact this
 rw[run_eql_struct,run_equalIn_struct w 9999 _ X X (by have h:=Tryz.underlying115;simp only[Program.fieldsOf,h]) (by kernel_rfl)];rw[Hd (P:=Tryz.prog) (w:=w) (d:=9999) (xs:=X) (ys:=X) _ (fun f hf=>?_)]
 · rfl
 have hm:(f.type,f.offset)∈(Tryz.prog.fieldsOf 115).toList.map (fun f=>(f.type,f.offset)):=List.mem_map.2 ⟨f,hf,rfl⟩;rw[MW] at hm;generalize f.type=ft,f.offset=fo at hm ⊢;simp only[List.mem_cons,Prod.mk.injEq,List.not_mem_nil,or_false] at hm;rcases hm with⟨rfl,rfl⟩|⟨rfl,rfl⟩|⟨rfl,rfl⟩|⟨rfl,rfl⟩|⟨rfl,rfl⟩
 · have hp:=R0 (P:=Tryz.prog) (w:=w) (e:=113) (N:=X) (off:=0) (by kernel_rfl) h0
   exact⟨_,_,hp,hp,by rw[run_equalIn_int w 9998 113 .u8 .u8 k k Tryz.underlying113];simp⟩
 · have hp:=IF (P:=Tryz.prog) (w:=w) (e:=24) (N:=X) (off:=1) (by kernel_rfl) sP h1
   exact⟨_,_,hp,hp,hP a ha⟩
 · have hp:=IF (P:=Tryz.prog) (w:=w) (e:=85) (N:=X) (off:=33) (by kernel_rfl) sH h2
   exact⟨_,_,hp,hp,hH b hb⟩
 · have hp:=IF (P:=Tryz.prog) (w:=w) (e:=85) (N:=X) (off:=65) (by kernel_rfl) sH h3
   exact⟨_,_,hp,hp,hH c hc⟩
 have hp:=IF (P:=Tryz.prog) (w:=w) (e:=85) (N:=X) (off:=97) (by kernel_rfl) sH h4;exact⟨_,_,hp,hp,hH d hd⟩
def Rt (k:Nat) (a b c d:List UInt8):List Value:=.int .u8 (k:Nat)::(a.map bv++(b.map bv++(c.map bv++d.map bv)))
def Bx (k:Nat) (a b c d:List UInt8):Array Value:=(Rt k a b c d).toArray
theorem Mm:CD=Bx 0 Nd.z32 Nd.z32 Nd.z32 Nd.z32:=by kernel_rfl
theorem Dy {k:Nat} {a b c d:List UInt8} (ha:a.length=32) (hb:b.length=32) (hc:c.length=32) (hd:d.length=32):(Bx k a b c d).size=129:=by simp[Bx,Rt,ha,hb,hc,hd]
theorem FZ (k:Nat) (a b c d:List UInt8):∀v∈(Bx k a b c d).toList,v.oneCell'=true:=fun v hv=>by
 simp only[Bx,Rt,List.mem_cons,List.mem_append,List.mem_map] at hv;rcases hv with rfl|⟨_,_,rfl⟩|⟨_,_,rfl⟩|⟨_,_,rfl⟩|⟨_,_,rfl⟩<;>rfl
theorem Qd {k:Nat} {a b c d:List UInt8} (ha:a.length=32) (hb:b.length=32) (hc:c.length=32) (hd:d.length=32) (w:World) :
 (Go.binOp BinOp.eql 115 (.agg (Bx k a b c d)) (.agg (Bx k a b c d))).run Tryz.prog w=.ok (.bool true) w:=by
 have ex:∀(p q s:List Value) (n m:Nat),p.length=n→q.length=m-n→((p++(q++s)).toArray.extract n m)=q.toArray:=fun p q s n m hp hq=>by
  apply Array.ext';rw[Array.toList_extract,List.extract_eq_take_drop]
  show((p++(q++s)).drop n).take (m-n)=q
  rw[←hp,List.drop_left,hp, ←hq,List.take_left]
 refine R8 (k:=(k:Int)) (a:=a) (b:=b) (c:=c) (d:=d) rfl ?_ ?_ ?_ ?_ ha hb hc hd w
 · exact ex [.int .u8 (k:Nat)] (a.map bv) _ 1 33 rfl (by simp[ha])
 · have:=ex (.int .u8 (k:Nat)::a.map bv) (b.map bv) (c.map bv++d.map bv) 33 65 (by simp[ha]) (by simp[hb])
   exact this
 · have:=ex (.int .u8 (k:Nat)::(a.map bv++b.map bv)) (c.map bv) (d.map bv) 65 97 (by simp[ha,hb]) (by simp[hc])
   rw[List.cons_append,List.append_assoc] at this;exact this
 have:=ex (.int .u8 (k:Nat)::(a.map bv++(b.map bv++c.map bv))) (d.map bv) [] 97 129 (by simp[ha,hb,hc]) (by simp[hd]);rw[List.cons_append,List.append_assoc,List.append_assoc,List.append_nil] at this;exact this
end Go.Proofs.YtooijgcildbnlaaGreat.Store
namespace Go.Proofs.YtooijgcildbnlaaGreat.Store
open Go.RowKit Go.Proofs.YtooijgcildbnlaaGreat.ShaW Go.Proofs.YtooijgcildbnlaaGreat.Path
def Tr.sides (k:List UInt8):Tr→Nat→List (List UInt8)
 | .nil,_ => []
 | .leaf _ _,_ => []
 | .node l r,d=>if AS k d=0 then r.dig::Tr.sides k l (d+1) else l.dig::Tr.sides k r (d+1)
def Tr.stop (k:List UInt8):Tr→Nat→Tr
 | .nil,_=>.nil
 | .leaf a b,_=>.leaf a b
 | .node l r,d=>if AS k d=0 then Tr.stop k l (d+1) else Tr.stop k r (d+1)
def upD (k:List UInt8):List (List UInt8)→Nat→List UInt8→List UInt8
 | [],_,h=>h
 | s::l,d,h=>if AS k d=0 then Tag.Cn (upD k l (d+1) h) s else Tag.Cn s (upD k l (d+1) h)
theorem KX (k:List UInt8):∀(t:Tr) (d:Nat),upD k (t.sides k d) d (t.stop k d).dig=t.dig
 | .nil,_=>rfl
 | .leaf _ _,_=>rfl
 | .node l r,d=>by
  unfold Tr.sides Tr.stop;by_cases hb:AS k d=0
  · rw[if_pos hb,if_pos hb]
    show(if AS k d=0 then Tag.Cn (upD k (l.sides k (d+1)) (d+1) (l.stop k (d+1)).dig) r.dig else _)=_
    rw[if_pos hb,KX k l (d+1)];rfl
  rw[if_neg hb,if_neg hb]
  show(if AS k d=0 then _ else Tag.Cn l.dig (upD k (r.sides k (d+1)) (d+1) (r.stop k (d+1)).dig))=_
  rw[if_neg hb,KX k r (d+1)];rfl
theorem EV (k:List UInt8):∀(t:Tr) (d:Nat),(t.stop k d).isNode=false
 | .nil,_=>rfl
 | .leaf _ _,_=>rfl
 | .node l r,d=>by
  unfold Tr.stop;split
  · exact EV k l (d+1)
  exact EV k r (d+1)
theorem DA (k:List UInt8):∀(t:Tr) (d:Nat),∀e∈(t.stop k d).ents,e∈t.ents
 | .nil,_,e,h=>h
 | .leaf _ _,_,e,h=>h
 | .node l r,d,e,h=>by
  unfold Tr.stop at h;split at h
  · exact List.mem_append.2 (.inl (DA k l (d+1) e h))
  exact List.mem_append.2 (.inr (DA k r (d+1) e h))
def Tr.Big:Tr→Prop
 | .nil=>True
 | .leaf _ _=>True
 | .node l r=>2≤l.leaves+r.leaves∧l.Big∧r.Big
theorem Sj:∀m,m≤256→∀ {L:AQ} {k:List UInt8},L.Ok k (256-m)→(tree m L).Big:=by
 intro m
 induction m with
 | zero =>
  intro _ L k hO
  match L,hO.few with
  | [],_=>trivial
  | [p],_=>trivial
  | _::_::_,hf=>simp at hf
 | succ m ih =>
  intro hm L k hO;by_cases h2:2≤L.length
  · have hlv:=OI (m+1) hm hO
    rw[Bg h2] at hlv ⊢;obtain⟨k0,o0⟩:=D3 hO 0;obtain⟨k1,o1⟩:=D3 hO 1;rw[show 256-(m+1)+1=256-m by omega,show 256-(m+1)=255-m by omega] at o0 o1
    have h3:(tree m (sideE 0 (255-m) L)).leaves+(tree m (sideE 1 (255-m) L)).leaves=L.length:=hlv
    exact⟨by omega,ih (by omega) o0,ih (by omega) o1⟩
  match L,h2 with
  | [],_=>trivial
  | [p],_=>trivial
  | _::_::_,h2=>exact absurd (by simp) h2
def D8 (l:List (List UInt8)):Nat:=(l.filter fun s => !decide (s=Tag.Cb)).length
theorem Kv (s:List UInt8) (l:List (List UInt8)):D8 (s::l)=D8 l+(if s=Tag.Cb then 0 else 1):=by
 unfold D8;rw[List.filter_cons];by_cases h:s=Tag.Cb
 · simp[h]
 simp[h]
theorem O3 (l:List (List UInt8)) (s:List UInt8):D8 (l ++ [s])=D8 l+(if s=Tag.Cb then 0 else 1):=by
 unfold D8;rw[List.filter_append,List.length_append];by_cases h:s=Tag.Cb
 · simp[h]
 simp[h]
theorem Tr.Big.zero:∀ {t:Tr},t.Big→t.leaves=0→t=.nil
 | .nil,_,_=>rfl
 | .leaf _ _,_,h=>by simp[Tr.leaves] at h
 | .node l r,hb,h=>by
  have h1:=hb.1;unfold Tr.leaves at h;omega
theorem I1 (k:List UInt8):∀(t:Tr) (d:Nat),t.Big→D8 (t.sides k d)+1≤max 1 t.leaves
 | .nil,_,_=>by simp[Tr.sides,D8];omega
 | .leaf _ _,_,_=>by simp[Tr.sides,D8];omega
 | .node l r,d,hb=>by
  have ihl:=I1 k l (d+1) hb.2.1;have ihr:=I1 k r (d+1) hb.2.2;have h2:=hb.1
  have one:∀t:Tr,t.Big→(if t.dig=Tag.Cb then 0 else 1)≤t.leaves:=fun t ht=>by
   by_cases h0:t.leaves=0
   · rw[ht.zero h0];simp[Tr.dig]
   split<;>omega
  have one':∀t:Tr,(if t.dig=Tag.Cb then 0 else 1)≤1:=fun t=>by split<;>omega
  have hl1:=one l hb.2.1;have hr1:=one r hb.2.2;have hl2:=one' l;have hr2:=one' r;have hlv:(Tr.node l r).leaves=l.leaves+r.leaves:=rfl;unfold Tr.sides;split
  · rw[Kv]
    omega
  rw[Kv];omega
section
variable {σ : AD Nd}
theorem On.sides {f:View} (hf:Fit f) {k:List UInt8} {h:Int} {d:Nat} {l:List Int} {e:Int} (ho:On f k h d l e):∀ {t:Tr},Rep f h d t →
 (t.sides k d).length=l.length∧(∀i x,l[i]?=some x→∃n,f x=some n∧n.kind=2∧n.depth=((d+i:Nat):Int)∧(t.sides k d)[i]?=some (IH f (if AS k (d+i)=0 then n.right else n.left)))∧Rep f e (d+l.length) (t.stop k d):=by
 induction ho with
 | @stop h d h0 =>
  intro t hr;cases hr with
  | nil=>exact⟨rfl,fun i x hx=>by simp at hx,.nil⟩
  | leaf hn hk=>exact⟨rfl,fun i x hx=>by simp at hx,.leaf hn hk⟩
  | node hn hk hd _ _ =>
   rcases h0 with rfl|⟨n',hn',hk'⟩
   · rw[hf.zero] at hn;cases hn
   rw[hn] at hn';cases hn';exact absurd hk hk'
 | @step h d n l e hn hk hd hrest ih =>
  intro t hr;cases hr with
  | nil=>rw[hf.zero] at hn;cases hn
  | leaf hn' hk'=>rw[hn] at hn';cases hn';omega
  | @node _ _ n' a b hn' hk' hd' ha hb =>
   rw[hn] at hn';cases hn';have hk1:(Tr.node a b).sides k d=(if AS k d=0 then b.dig::a.sides k (d+1) else a.dig::b.sides k (d+1)):=rfl;have hk2:(Tr.node a b).stop k d=(if AS k d=0 then a.stop k (d+1) else b.stop k (d+1)):=rfl;rw[hk1,hk2];by_cases hbit:AS k d=0
   · rw[if_pos hbit] at ih ⊢
     rw[if_pos hbit];obtain⟨h1,h2,h3⟩:=ih ha;refine⟨by rw[List.length_cons,h1,List.length_cons],fun i x hx=>?_,by rw[List.length_cons,show d+(l.length+1)=d+1+l.length by omega];exact h3⟩;cases i with
     | zero =>
      obtain rfl:h=x:=by simpa using hx
      exact⟨n,hn,hk,hd,by rw[List.getElem?_cons_zero,Nat.add_zero,if_pos hbit,hb.dig hf]⟩
     | succ i =>
      obtain⟨m,q1,q2,q3,q4⟩:=h2 i x (by simpa using hx);exact⟨m,q1,q2,by rw[q3];congr 1;omega,by rw[List.getElem?_cons_succ,q4,show d+1+i=d+(i+1) by omega]⟩
   rw[if_neg hbit] at ih ⊢;rw[if_neg hbit];obtain⟨h1,h2,h3⟩:=ih hb;refine⟨by rw[List.length_cons,h1,List.length_cons],fun i x hx=>?_,by rw[List.length_cons,show d+(l.length+1)=d+1+l.length by omega];exact h3⟩;cases i with
   | zero =>
    obtain rfl:h=x:=by simpa using hx
    exact⟨n,hn,hk,hd,by rw[List.getElem?_cons_zero,Nat.add_zero,if_neg hbit,ha.dig hf]⟩
   | succ i =>
    obtain⟨m,q1,q2,q3,q4⟩:=h2 i x (by simpa using hx);exact⟨m,q1,q2,by rw[q3];congr 1;omega,by rw[List.getElem?_cons_succ,q4,show d+1+i=d+(i+1) by omega]⟩
end
def EC:Tr→Array Value
 | .nil=>Bx 0 Nd.z32 Nd.z32 Nd.z32 Nd.z32
 | .leaf k v=>Bx 1 k (Tag.Aw v) Nd.z32 Nd.z32
 | .node l r=>Bx 2 Nd.z32 Nd.z32 l.dig r.dig
end Go.Proofs.YtooijgcildbnlaaGreat.Store
namespace Go.Proofs.YtooijgcildbnlaaGreat.Store
open Go.RowKit Go.Sort Go.Proofs.YtooijgcildbnlaaGreat.ShaW Go.Proofs.YtooijgcildbnlaaGreat.Path Go.Proofs.YtooijgcildbnlaaGreat.BE
theorem CB {P:Program} {w:World} {ops:Array Oper} {rest:List Oper} {o:Oper} {a:Act} {Q:Exit→Act→World→Prop} (hgd:o.guard=none) (t i j k:Nat) (x y z:Operand) (ho:o.op=.build t #[(i,x),(j,y),(k,z)])
 (vx vy vz:Value) (hx:a.eval x=vx) (hy:a.eval y=vy) (hz:a.eval z=vz) (cells:Array Value) (hf:P.built t [(i,vx),(j,vy),(k,vz)]=some cells) (h:wpList P ops Q rest (a.put o.dst (.agg cells)) w):wpList P ops Q (o::rest) a w :=
 wpList_build_is hgd t #[(i,x),(j,y),(k,z)] ho cells (by simpa[hx,hy,hz] using hf) h
theorem JR:∃i fs,Tryz.prog.info? 115=some i∧i.zero=some (.agg CD)∧Tryz.prog.underlying 115=some (.struct fs) ∧
 fs.toList.mapM (fun f=>(Tryz.prog.info? f.type).map fun i=>(f.offset,i.size))=some [(0,1),(1,32),(33,32),(65,32),(97,32)]:=by
 obtain⟨i,hi⟩:∃i,Tryz.prog.info? 115=some i:=Option.isSome_iff_exists.1 (by kernel_rfl);have hz:=Bu.1;rw[hi] at hz;exact⟨i,_,hi,hz,Tryz.underlying115,by kernel_rfl⟩
theorem BX {p q s v:List Value} {n:Nat} (hp:p.length=n) (hq:q.length=v.length):splice (p++(q++s)) n v=p++(v++s):=by
 unfold splice;rw[←hp,List.take_left, ←hq,List.drop_append,Nat.add_sub_cancel_left,List.drop_of_length_le (by omega),List.nil_append,List.drop_left,List.append_assoc]
def zb:List Value:=Nd.z32.map bv
theorem Ck:zb.length=32:=rfl
theorem Pe:splice CD.toList 0 [Value.int .u8 1] = [Value.int .u8 1]++(zb++(zb++(zb++zb)))∧splice CD.toList 0 [Value.int .u8 2] = [Value.int .u8 2]++(zb++(zb++(zb++zb))):=⟨by kernel_rfl,by kernel_rfl⟩
theorem GH (K V:List UInt8) (hK:K.length=32) (hV:V.length=32) :
 Tryz.prog.built 115 [(0,.int .u8 1),(1,.agg (AM K)),(2,.agg (AM V))]=some (Bx 1 K V Nd.z32 Nd.z32):=by
 obtain⟨i,fs,h1,h2,h3,h4⟩:=JR;have hzs:CD.size=129:=rfl;unfold Program.built;rw[h1,h3];simp only[h2,h4]
 show Instr.fill _ CD _=_
 rw[Af (off:=0) (size:=1) rfl rfl (by rw[hzs];omega)];have e1:(Value.int IntKind.u8 1).cells.toList = [Value.int .u8 1]:=rfl;rw[e1,Pe.1];rw[Af (off:=1) (size:=32) rfl (by simp[Value.cells,AN,hK]) (by simp[Ck])];have e2:(Value.agg (AM K)).cells.toList=K.map bv:=by simp[Value.cells,AM]
 rw[e2]
 show Instr.fill _ (splice ([Value.int .u8 1]++(zb++(zb++(zb++zb)))) 1 (K.map bv)).toArray _=_
 rw[BX (p := [Value.int .u8 1]) (n:=1) rfl (by rw[Ck,List.length_map,hK])];rw[Af (off:=33) (size:=32) rfl (by simp[Value.cells,AN,hV]) (by simp[Ck,hK])];have e3:(Value.agg (AM V)).cells.toList=V.map bv:=by simp[Value.cells,AM]
 rw[e3]
 show some (splice ([Value.int .u8 1]++(K.map bv++(zb++(zb++zb)))) 33 (V.map bv)).toArray=_
 rw[←List.append_assoc,BX (by simp[hK]) (by rw[Ck,List.length_map,hV]),List.append_assoc];rfl
theorem I7 (L R:List UInt8) (hL:L.length=32) (hR:R.length=32) :
 Tryz.prog.built 115 [(0,.int .u8 2),(3,.agg (AM L)),(4,.agg (AM R))]=some (Bx 2 Nd.z32 Nd.z32 L R):=by
 obtain⟨i,fs,h1,h2,h3,h4⟩:=JR;have hzs:CD.size=129:=rfl;unfold Program.built;rw[h1,h3];simp only[h2,h4]
 show Instr.fill _ CD _=_
 rw[Af (off:=0) (size:=1) rfl rfl (by rw[hzs];omega)];have e1:(Value.int IntKind.u8 2).cells.toList = [Value.int .u8 2]:=rfl;rw[e1,Pe.2];rw[Af (off:=65) (size:=32) rfl (by simp[Value.cells,AN,hL]) (by simp[Ck])];have e2:(Value.agg (AM L)).cells.toList=L.map bv:=by simp[Value.cells,AM]
 rw[e2]
 show Instr.fill _ (splice ([Value.int .u8 2]++(zb++(zb++(zb++zb)))) 65 (L.map bv)).toArray _=_
 rw[show [Value.int .u8 2]++(zb++(zb++(zb++zb)))=([Value.int .u8 2]++(zb++zb))++(zb++zb) by simp only[List.append_assoc],BX (by simp[Ck]) (by rw[Ck,List.length_map,hL])];rw[Af (off:=97) (size:=32) rfl (by simp[Value.cells,AN,hR]) (by simp[Ck,hL])];have e3:(Value.agg (AM R)).cells.toList=R.map bv:=by simp[Value.cells,AM]
 rw[e3]
 show some (splice (([Value.int .u8 2]++(zb++zb))++(L.map bv++zb)) 97 (R.map bv)).toArray=_
 rw[show([Value.int .u8 2]++(zb++zb))++(L.map bv++zb)=([Value.int .u8 2]++(zb++(zb++L.map bv)))++(zb ++ []) by simp only[List.append_assoc,List.append_nil],BX (by simp[Ck,hL]) (by rw[Ck,List.length_map,hR])];simp only[List.append_assoc,List.append_nil];rfl
section
variable {w w' : World} {b : Nat} {F : Nat→Prop} {ρ : Rs} {σ : AD Nd}
def J1 (σ:AD Nd) (n:Int):Array Value :=
 if (nd σ n).kind=1 then Bx 1 (nd σ n).key (nd σ n).hash Nd.z32 Nd.z32 else if (nd σ n).kind=2 then Bx 2 Nd.z32 Nd.z32 (Ar σ (nd σ n).left) (Ar σ (nd σ n).right) else CD
end
end Go.Proofs.YtooijgcildbnlaaGreat.Store
