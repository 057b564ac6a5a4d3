/- Laws of the layers below. -/
import Derived.Maps.RangeWalk
import Derived.Sort.KeysCollected
import Derived.StringKeys
import Derived.Maps.Keyed
import Derived.Test.YtngbdbpofifimaaGreatQl24
set_option maxHeartbeats 3200000
set_option maxRecDepth 100000
set_option linter.unusedVariables false
namespace Go.Proofs.YtngbdbpofifimaaGreat.Law9
open Go.RowKit Go.Proofs.YtngbdbpofifimaaGreat.ShaW Go.Proofs.YtngbdbpofifimaaGreat.Path Go.Proofs.YtngbdbpofifimaaGreat.Store
section
variable {α : Type} {cells : α→Array Value} {m : Nat}
def BC (cells:α→Array Value) (l:List α):List Value:=l.flatMap fun x=>(cells x).toList
def EZ (cells:α→Array Value) (m:Nat) (l:List α):Prop:=∀x∈l,(cells x).size=m
theorem DX:∀(l:List α),EZ cells m l→(BC cells l).length=l.length*m
 | [],_=>by simp[BC]
 | x::l,h=>by
  have ih:=DX l (fun y hy=>h y (List.mem_cons_of_mem _ hy));have e:BC cells (x::l)=(cells x).toList++BC cells l:=by simp[BC]
  have e2:(l.length+1)*m=l.length*m+m:=Nat.succ_mul ..;rw[e,List.length_append,ih,Array.length_toList,h x (List.mem_cons_self ..),List.length_cons];omega
theorem CZ (l k:List α):BC cells (l++k)=BC cells l++BC cells k:=by simp[BC]
theorem Fp {l:List α} {i:Nat} {x:α} (hi:l[i]?=some x):BC cells l=BC cells (l.take i)++((cells x).toList++BC cells (l.drop (i+1))):=by
 obtain⟨hlt,rfl⟩:=List.getElem?_eq_some_iff.1 hi;have e:=List.take_append_drop i l;rw[List.drop_eq_getElem_cons hlt] at e;have e2:BC cells l=BC cells (l.take i++l[i]::l.drop (i+1)):=by rw[e]
 have e3:BC cells (l[i]::l.drop (i+1))=(cells l[i]).toList++BC cells (l.drop (i+1)):=List.flatMap_cons;rw[e2,CZ,e3]
theorem JF {l:List α} (h:EZ cells m l) {i:Nat} (hi:i≤l.length):(BC cells (l.take i)).length=i*m:=by
 rw[DX (m:=m) _ (fun x hx=>h x (List.mem_of_mem_take hx)),List.length_take,Nat.min_eq_left hi]
theorem Nh {l:List α} (h:EZ cells m l) {i:Nat} {x:α} (hi:l[i]?=some x):((BC cells l).drop (i*m)).take m=(cells x).toList:=by
 have hlt:=(List.getElem?_eq_some_iff.1 hi).1;have hs:(cells x).toList.length=m:=by rw[Array.length_toList];exact h x (List.mem_of_getElem? hi)
 rw[Fp hi,List.drop_append_of_le_length (by rw[JF h (by omega)];omega),List.drop_eq_nil_of_le (by rw[JF h (by omega)];omega),List.nil_append,List.take_append_of_le_length (by omega),List.take_of_length_le (by omega)]
theorem Sa {l:List α} (h:EZ cells m l) {i:Nat} (hi:i<l.length) {p:α} (hp:(cells p).size=m):splice (BC cells l) (i*m) (cells p).toList=BC cells (l.set i p):=by
 have hx:l[i]?=some l[i]:=List.getElem?_eq_getElem hi;have hp':(l.set i p)[i]?=some p:=by simp[hi]
 have hs:(cells l[i]).toList.length=m:=by rw[Array.length_toList];exact h _ (List.mem_of_getElem? hx)
 have hps:(cells p).toList.length=m:=by rw[Array.length_toList];exact hp
 have e2:(l.set i p).take i=l.take i:=by rw[List.take_set_of_le (Nat.le_refl _)]
 have e3:(l.set i p).drop (i+1)=l.drop (i+1):=by rw[List.drop_set_of_lt (Nat.lt_succ_self _)]
 rw[Fp hp',e2,e3,splice,hps];have ht:=JF h (i:=i) (by omega)
 have e4:(BC cells l).take (i*m)=BC cells (l.take i):=by
  rw[Fp hx,List.take_append_of_le_length (by omega),List.take_of_length_le (by omega)]
 have e5:(BC cells l).drop (i*m+m)=BC cells (l.drop (i+1)):=by
  rw[Fp hx, ←List.append_assoc,List.drop_append,List.drop_eq_nil_of_le (by rw[List.length_append];omega),List.nil_append,List.length_append,ht,hs];simp
 rw[e4,e5,List.append_assoc]
def Ck (T:TypeId) (m:Nat) (cells:α→Array Value) (w:World) (b:Nat) (v:Value) (l:List α):Prop:=w.ownsRow b T m v l.length (BC cells l)
variable {w w' : World} {b : Nat} {v : Value} {l : List α} {T : TypeId}
theorem Ck.form (h:Ck T m cells w b v l):∃ao cap,v=.slice ao l.length cap:=Aj h
theorem Ck.adds (h:Ck T m cells w b v l) (a:Adds w w'):Ck T m cells w' b v l:=a.owns h (fun _ _ h=>h)
theorem Ck.nil (w:World) (b:Nat):Ck T m cells w b (.slice none 0 0) []:=World.ownsRow_nil _ _ _ _
theorem Ck.open (h:Ck T m cells w b v l) (hk:EZ cells m l) (hl:0<l.length):∃g cap cur,v=.slice (some ⟨g,0,none⟩) l.length cap∧b≤g∧l.length≤cap∧w.heap[g]?=some (.cells cur T (0,0))∧l.length*m≤cur.size ∧
 (∀i x,l[i]?=some x→cur.extract (i*m) (i*m+m)=cells x) ∧
 ∀i p,i<l.length→(cells p).size=m→Ck T m cells (w.setRow g (splice cur.toList (i*m) (cells p).toList).toArray) b v (l.set i p):=by
 obtain⟨h0,⟨_,h1⟩|⟨g,cap,cur,rfl,hb,hg,hn,hc,hs,ht⟩⟩:=h
 · omega
 have hle:l.length*m≤cap*m:=Nat.mul_le_mul_right _ hn;have up:∀i,i<l.length→i*m+m≤l.length*m:=fun i hi=>by have:=Nat.mul_le_mul_right m (show i+1≤l.length by omega);rwa [Nat.succ_mul] at this
 refine⟨g,cap,cur,rfl,hb,hn,hg,by omega,fun i x hx=>?_,fun i p hi hp=>?_⟩
 · have hm:=up i (List.getElem?_eq_some_iff.1 hx).1
   apply Array.ext';rw[←Nh hk hx, ←ht];simp only[Array.toList_extract,List.extract];rw[List.drop_take,List.take_take,show i*m+m-i*m=m by omega,Nat.min_eq_left (by omega)]
 have hps:(cells p).toList.length=m:=by rw[Array.length_toList];exact hp
 have hm:=up i hi
 have hsl:(splice cur.toList (i*m) (cells p).toList).length=cap*m:=by
  unfold splice;rw[List.length_append,List.length_append,List.length_take,List.length_drop,Array.length_toList,hps];omega
 have hks:EZ cells m (l.set i p):=fun x hx=>by
  rcases List.mem_or_eq_of_mem_set hx with h|h
  · exact hk x h
  rw[h];exact hp
 refine⟨by rw[DX (m:=m) _ hks],.inr ⟨g,cap,_,by rw[List.length_set],hb,AF hg _,by rw[List.length_set];exact hn,hc,by simpa using hsl,?_⟩⟩;rw[List.length_set, ←Sa hk hi hp, ←ht];have hcl:cur.toList.length=cap*m:=by rw[Array.length_toList];exact hs
 unfold splice;rw[hps];rw[List.take_append,List.take_append,List.take_of_length_le (l:=cur.toList.take (i*m)) (by rw[List.length_take];omega),List.take_take,Nat.min_eq_left (by omega)];rw[List.length_append,List.length_take,hcl,hps,Nat.min_eq_left (by omega)];rw[List.take_of_length_le (l:=(cells p).toList) (by omega)]
 congr 1
 rw[List.drop_take]
theorem Ck.row (h:Ck T m cells w b v l) (hk:EZ cells m l) (hm:0<m):∃ao cap,v=.slice ao l.length cap∧EN m cells w ao l∧(l.length≤cap∨l = []):=by
 obtain⟨ao,cap,e⟩:=h.form;by_cases h0:0<l.length
 · obtain⟨g,cap,cur,e2,hb,hn,hg,hs,hx,_⟩:=h.open hk h0
   refine⟨_,_,e2,fun i x hi=>⟨g,0,rfl,cur,T,(0,0),hg,?_,?_⟩,.inl hn⟩
   · have:=Nat.mul_le_mul_right m (show i+1≤l.length from(List.getElem?_eq_some_iff.1 hi).1)
     rw[Nat.succ_mul] at this;rw[hk x (List.mem_of_getElem? hi)];omega
   rw[hk x (List.mem_of_getElem? hi),Nat.zero_add];exact hx i x hi
 obtain rfl:l = []:=List.length_eq_zero_iff.1 (by omega);exact⟨ao,cap,e,fun i x hi=>(by simp at hi),.inr rfl⟩
theorem O0 {g off:Nat} (hk:EZ cells m l) (hm:0<m) (hl:∀(i:Nat) x,l[i]?=some x→CX w g (off+i*m) (cells x)):∀(j:Nat) u,(BC cells l)[j]?=some u→w.cell? ⟨g,off+j,none⟩=some u:=fun j u hu=>by
 have hj:=(List.getElem?_eq_some_iff.1 hu).1;rw[DX l hk] at hj;have hi:j / m<l.length:=Nat.div_lt_of_lt_mul (by rw[Nat.mul_comm];exact hj);have hx:l[j / m]?=some l[j / m]:=List.getElem?_eq_getElem hi;have hs:=hk _ (List.getElem_mem hi);obtain⟨cur,t,fr,hr,h1,h2⟩:=hl _ _ hx;have hmm:j % m<m:=Nat.mod_lt _ hm;have hdm:j / m*m+j % m=j:=Nat.div_add_mod' j m;have e1:((BC cells l).drop (j / m*m)).take m=(cells (l[j / m])).toList:=Nh hk hx
 have e2:(cells (l[j / m])).toList[j % m]?=some u:=by
  rw[←e1,List.getElem?_take,if_pos hmm,List.getElem?_drop,hdm];exact hu
 rw[show off+j=off+j / m*m+j % m by omega];refine AH hr ?_;rw[Array.getElem?_toList, ←h2,Array.getElem?_extract,if_pos (by omega)] at e2;exact e2
theorem EN.news {ad:Addr} (h:EN m cells w (some ad) l) (hk:EZ cells m l) (hm:0<m):∀(j:Nat) u,(BC cells l)[j]?=some u→w.cell? (ad.add j)=some u:=fun j u hu=>by
 have hj:=(List.getElem?_eq_some_iff.1 hu).1;rw[DX l hk] at hj;have hl0:0<l.length:=Nat.pos_of_mul_pos_right (Nat.lt_of_le_of_lt (Nat.zero_le _) hj);obtain⟨g,off,h1,_⟩:=h 0 _ (List.getElem?_eq_getElem hl0);injection h1 with h1;subst h1;rw[add_plain];refine O0 hk hm (fun i x hx=>?_) j u hu;obtain⟨g',off',h1',h2'⟩:=h i x hx;injection h1' with h1';injection h1' with a b;subst a b;exact h2'
end
end Go.Proofs.YtngbdbpofifimaaGreat.Law9
namespace Go.Proofs.YtngbdbpofifimaaGreat.Store
open Go.RowKit Go.Proofs.YtngbdbpofifimaaGreat.ShaW Go.Proofs.YtngbdbpofifimaaGreat.Path
open Go.Maps (Keyed)
abbrev Nms:=List (List UInt8×Int)
def Nms.names (ν:Nms):List (List UInt8):=ν.map Prod.fst
def Nms.get (ν:Nms) (x:List UInt8):Int:=((ν.find? (fun p=>decide (p.1=x))).map Prod.snd).getD 0
def Nms.cut (ν:Nms) (x:List UInt8):Nms:=ν.filter (fun p => !decide (p.1=x))
def Nms.set (ν:Nms) (x:List UInt8) (c:Int):Nms:=(x,c)::ν.cut x
theorem Nms.Wx {ν:Nms} {x:List UInt8} {p:List UInt8×Int}:p∈ν.cut x↔p∈ν∧p.1≠x:=by simp[Nms.cut]
theorem Nms.Dd {ν:Nms} {x z:List UInt8}:z∈(ν.cut x).names↔z∈ν.names∧z≠x:=by
 simp only[Nms.names,List.mem_map,Nms.Wx];constructor
 · rintro⟨p,⟨h1,h2⟩,rfl⟩;exact⟨⟨p,h1,rfl⟩,h2⟩
 rintro⟨⟨p,h1,rfl⟩,h2⟩;exact⟨p,⟨h1,h2⟩,rfl⟩
theorem Nms.M5 {ν:Nms} (h:ν.names.Nodup) (x:List UInt8):(ν.cut x).names.Nodup:=by
 unfold Nms.names Nms.cut at *;exact h.sublist (List.filter_sublist.map _)
theorem Nms.Sb {ν:Nms} (h:ν.names.Nodup) (x:List UInt8) (c:Int):(ν.set x c).names.Nodup:=by
 show(x::(ν.cut x).names).Nodup
 exact List.nodup_cons.2 ⟨fun hm=>(Nms.Dd.1 hm).2 rfl,Nms.M5 h x⟩
theorem Nms.QJ {ν:Nms} {x:List UInt8} (h:x∉ν.names):ν.cut x=ν:=by
 unfold Nms.cut;refine List.filter_eq_self.2 (fun p hp=>?_);have:p.1≠x:=fun e=>h (List.mem_map.2 ⟨p,hp,e⟩)
 simp[this]
theorem Nms.L9 {ν:Nms} {x:List UInt8} {c:Int}:(ν.set x c).get x=c:=by simp[Nms.get,Nms.set]
theorem Nms.R7 {ν:Nms} {x z:List UInt8} (h:z≠x):(ν.cut x).get z=ν.get z:=by
 unfold Nms.get Nms.cut
 congr 2
 rw[List.find?_filter]
 congr 1
 funext p
 by_cases e:p.1=z
 · simp[e,h]
 simp[e]
theorem Nms.Cg {ν:Nms} {x z:List UInt8} {c:Int} (h:z≠x):(ν.set x c).get z=ν.get z:=by
 have:(ν.set x c).get z=(ν.cut x).get z:=by
  unfold Nms.get Nms.set;rw[List.find?_cons_of_neg (by simp[Ne.symm h])]
 rw[this,Nms.R7 h]
theorem Nms.get_none {ν:Nms} {x:List UInt8} (h:x∉ν.names):ν.get x=0:=by
 unfold Nms.get;rw[List.find?_eq_none.2 (fun p hp=>by have:p.1≠x:=fun e=>h (List.mem_map.2 ⟨p,hp,e⟩);simp[this])];rfl
theorem Nms.Nx {ν:Nms} {x:List UInt8}:(ν.cut x).get x=0:=Nms.get_none (fun h=>(Nms.Dd.1 h).2 rfl)
theorem Nms.get_mem {ν:Nms} (hn:ν.names.Nodup) {p:List UInt8×Int} (hp:p∈ν):ν.get p.1=p.2:=by
 induction ν with
 | nil=>cases hp
 | cons q ν ih =>
  rcases List.mem_cons.1 hp with rfl|h
  · simp[Nms.get]
  obtain⟨h1,h2⟩:=List.nodup_cons.1 (show(q.1::Nms.names ν).Nodup from hn);have hne:q.1≠p.1:=fun e=>h1 (e▸List.mem_map.2 ⟨p,h,rfl⟩)
  rw[←ih h2 h];unfold Nms.get;rw[List.find?_cons_of_neg (by simp[hne])]
theorem Nms.Ln {ν:Nms} (hn:ν.names.Nodup) (x:List UInt8):(ν.cut x).length+(if x∈ν.names then 1 else 0)=ν.length:=by
 induction ν with
 | nil=>rfl
 | cons q ν ih =>
  obtain⟨h1,h2⟩:=List.nodup_cons.1 (show(q.1::Nms.names ν).Nodup from hn);have ih:=ih h2;by_cases e:q.1=x
  · subst e
    have hc:Nms.cut (q::ν) q.1=Nms.cut ν q.1:=by simp[Nms.cut]
    have hm:q.1∈Nms.names (q::ν):=List.mem_cons_self;rw[hc,if_pos hm,Nms.QJ h1,List.length_cons]
  have hc:Nms.cut (q::ν) x=q::Nms.cut ν x:=by simp[Nms.cut,e]
  have hm:x∈Nms.names (q::ν)↔x∈Nms.names ν:=by
   show x∈q.1::Nms.names ν↔_
   rw[List.mem_cons];exact⟨fun h=>h.resolve_left (fun h=>e h.symm),.inr⟩
  rw[hc,List.length_cons,List.length_cons];by_cases hx:x∈Nms.names ν
  · rw[if_pos (hm.2 hx)]
    rw[if_pos hx] at ih;omega
  rw[if_neg (fun h=>hx (hm.1 h))];rw[if_neg hx] at ih;omega
noncomputable abbrev Lw:Value→Option (DataW Value×List MemPlace):=plainElem Tryz.prog 3
theorem Pm:Keyed Tryz.prog 9:=Go.Maps.string_keyed Tryz.underlying9
theorem MQ (w:World):(zeroValue 3).run Tryz.prog w=.ok (.int .i64 0) w:=by kernel_rfl
def OU (x:Int):DataW Value:=.lit (.int .i64 x)
theorem Gt (x:List UInt8) (hx:x.length≤maxLen):keyOf Tryz.prog 9 (.string (BP x))=some (.string x):=by
 have:=Go.WideMaps.keyOf_string_mk (P:=Tryz.prog) (k:=9) Tryz.underlying9 (s:=BP x) (by show x.toArray.size≤_;simpa using hx);simpa[BP] using this
theorem Nq {x:List UInt8} (hx:x.length≤maxLen):WideAt.IsKeyLit (.string x):=Pm.key (Gt x hx)
structure Bd (w:World) (b n:Nat) (ν:Nms):Prop where
 ex:∃D,w.ownsMap Tryz.prog 9 Lw b n D∧Maps.size D=ν.length∧∀x:List UInt8,Maps.has D (.string x)=decide (x∈ν.names)∧D.atKey (.string x) (OU 0)=OU (ν.get x)
 nd:ν.names.Nodup
 len:∀x∈ν.names,x.length≤maxLen
section
variable {w w' : World} {b n : Nat} {ν : Nms}
theorem Bd.Af {F:Nat→Prop} (h:Bd w b n ν) (hc:Ch F w w') (hb:¬F b):Bd w' b n ν:=by
 obtain⟨⟨D,⟨es,clock,hg,r⟩,h2⟩,h3,h4⟩:=h;exact⟨⟨D,⟨es,clock,hc.row hg hb,r⟩,h2⟩,h3,h4⟩
theorem Bd.lt (h:Bd w b n ν):b<w.heap.size:=by
 obtain⟨⟨D,h1,h2⟩,h3,h4⟩:=h;exact h1.lt
theorem Bd.made (w:World):Bd (w.alloc (.map #[] 0)) w.heap.size 0 [] :=
 ⟨⟨_,World.ownsMap_made w _ _ _,rfl,fun x=>⟨rfl,by simp[DataW.atKey,Nms.get]⟩⟩,List.nodup_nil,fun x hx=>by cases hx⟩
theorem Bd.look (h:Bd w b n ν) {x:List UInt8} (hx:x.length≤maxLen) :
 (Instr.lookup 211 (.map (some b)) (.string (BP x)) true).run Tryz.prog w=.ok (.tuple #[.int .i64 (ν.get x),.bool (decide (x∈ν.names))]) w:=by
 obtain⟨⟨D,h1,_,h2⟩,_⟩:=h;obtain⟨v,ps,hr,hv⟩:=h1.look_ok Pm Tryz.underlying211 (MQ w) (plainElem_int Tryz.underlying3 (by decide)) (Gt x hx);obtain⟨c,rfl,hc,_⟩:=plainElem_int_inv Tryz.underlying3 hv;have e:=(h2 x).2;simp only[Prod.mk.injEq] at hc;rw[show OU 0=.lit (.int .i64 0) from rfl,hc.1] at e;simp only[OU,DataW.lit.injEq,Lit.int.injEq,true_and] at e;rw[hr,e,(h2 x).1]
theorem Bd.count (h:Bd w b n ν) (ty:TypeId):(Builtin.len_ #[211] ty #[.map (some b)]).run Tryz.prog w=.ok (.int .i64 (ν.length:Nat)) w:=by
 obtain⟨⟨D,h1,hs,h2⟩,_⟩:=h;rw[h1.len Tryz.underlying211 ty,hs]
theorem NQ {b:Nat} (h:w.mapTurned w' b):Ch (fun k=>k=b) w w':=(Ch.refl _ w).grown h.grown (fun k hk=>.inl (by cases hk;rfl))
theorem Bd.put (h:Bd w b n ν) (hn:n<maxLen) {x:List UInt8} (hx:x.length≤maxLen) {c:Int} (hc:(Lit.int .i64 c).wf=true) :
 ∃w',(Instr.mapUpdate 211 (.map (some b)) (.string (BP x)) (.int .i64 c)).run Tryz.prog w=.ok () w'∧Bd w' b (n+1) (ν.set x c)∧Ch (fun k=>k=b) w w':=by
 obtain⟨⟨D,h1,hs,h2⟩,h3,h4⟩:=h;obtain⟨w',hr,ho,ht⟩:=h1.store Pm Tryz.underlying211 hn (Gt x hx) (plainElem_int Tryz.underlying3 hc);refine⟨w',hr,⟨⟨_,ho,?_,fun z=>?_⟩,Nms.Sb h3 x c,fun z hz=>?_⟩,NQ ht⟩
 · rw[Maps.size_put (h1.tidy Pm),(h2 x).1,hs]
   have hl:=Nms.Ln h3 x
   show _=(Nms.cut ν x).length+1
   by_cases e:x∈ν.names
   · rw[if_pos e] at hl
     rw[if_pos (decide_eq_true e)];omega
   rw[if_neg e] at hl;rw[if_neg (by simpa using e)];omega
 · by_cases e:z=x
   · subst e
     refine⟨?_,?_⟩
     · rw[Maps.has_put_same h1.isMap (Nq hx)]
       exact(decide_eq_true (show z∈(Nms.set ν z c).names from List.mem_cons_self ..)).symm
     rw[Maps.atKey_put_same h1.isMap (Nq hx),Nms.L9];rfl
   have hne:(Lit.string z)≠.string x:=fun h=>e (by injection h)
   refine⟨?_,?_⟩
   · rw[Maps.has_put_other hne,(h2 z).1]
     refine decide_eq_decide.2 ?_
     show _↔z∈x::(Nms.cut ν x).names
     rw[List.mem_cons,Nms.Dd];exact⟨fun h=>.inr ⟨h,e⟩,fun h=>(h.resolve_left e).1⟩
   rw[Maps.atKey_put_other hne,(h2 z).2,Nms.Cg e]
 rcases List.mem_cons.1 (show z∈x::(Nms.cut ν x).names from hz) with rfl|h
 · exact hx
 exact h4 z (Nms.Dd.1 h).1
theorem Bd.drop (h:Bd w b n ν) {x:List UInt8} (hx:x.length≤maxLen) (ty:TypeId) :
 ∃w',(Builtin.delete_ #[211,9] ty #[.map (some b),.string (BP x)]).run Tryz.prog w=.ok (.tuple #[]) w'∧Bd w' b n (ν.cut x)∧Ch (fun k=>k=b) w w':=by
 obtain⟨⟨D,h1,hs,h2⟩,h3,h4⟩:=h;obtain⟨w',hr,ho,ht⟩:=h1.drop Pm Tryz.underlying211 (Gt x hx) ty;refine⟨w',hr,⟨⟨_,ho,?_,fun z=>?_⟩,Nms.M5 h3 x,fun z hz=>h4 z (Nms.Dd.1 hz).1⟩,NQ ht⟩
 · have h5:=Maps.size_del (k:=.string x) (h1.tidy Pm)
   have hl:=Nms.Ln h3 x;rw[(h2 x).1,hs] at h5;by_cases e:x∈ν.names
   · rw[if_pos e] at hl
     rw[if_pos (decide_eq_true e)] at h5;omega
   rw[if_neg e] at hl;rw[if_neg (by simpa using e)] at h5;omega
 by_cases e:z=x
 · subst e
   refine⟨?_,?_⟩
   · rw[Maps.has_del_same]
     exact(decide_eq_false (fun h=>(Nms.Dd.1 h).2 rfl)).symm
   rw[Maps.atKey_del_same,Nms.Nx]
 have hne:(Lit.string z)≠.string x:=fun h=>e (by injection h)
 refine⟨?_,?_⟩
 · rw[Maps.has_del_other hne,(h2 z).1]
   refine decide_eq_decide.2 ?_;rw[Nms.Dd];exact⟨fun h=>⟨h,e⟩,fun h=>h.1⟩
 rw[Maps.atKey_del_other hne,(h2 z).2,Nms.R7 e]
end
end Go.Proofs.YtngbdbpofifimaaGreat.Store
namespace Go.Proofs.YtngbdbpofifimaaGreat.Store
open Go.RowKit Go.Proofs.YtngbdbpofifimaaGreat.Path Go.Maps
structure D6 (w:World) (b n:Nat) (ν:Nms):Prop where
 ex:∃D,w.ownsMap Tryz.prog 47 Lw b n D∧∀x:List UInt8,x.length=32→Maps.has D (kl x)=decide (x∈ν.names)∧D.atKey (kl x) (OU 0)=OU (ν.get x)
section
variable {w w' : World} {b n : Nat} {ν : Nms}
theorem D6.Af {F:Nat→Prop} (h:D6 w b n ν) (hc:Ch F w w') (hb:¬F b):D6 w' b n ν:=by
 obtain⟨D,⟨es,clock,hg,r⟩,h2⟩:=h;exact⟨D,⟨es,clock,hc.row hg hb,r⟩,h2⟩
theorem D6.lt (h:D6 w b n ν):b<w.heap.size:=by
 obtain⟨D,h1,h2⟩:=h;exact h1.lt
theorem D6.made (w:World):D6 (w.alloc (.map #[] 0)) w.heap.size 0 [] :=
 ⟨_,World.ownsMap_made w _ _ _,fun x _=>⟨rfl,by simp[DataW.atKey,Nms.get]⟩⟩
theorem D6.look (h:D6 w b n ν) {x:List UInt8} (hx:x.length=32) :
 (Instr.lookup 311 (.map (some b)) (.agg (AK x)) true).run Tryz.prog w=.ok (.tuple #[.int .i64 (ν.get x),.bool (decide (x∈ν.names))]) w:=by
 obtain⟨D,h1,h2⟩:=h;obtain⟨v,ps,hr,hv⟩:=h1.look_ok UU Tryz.underlying311 (MQ w) (plainElem_int Tryz.underlying3 (by decide)) (Gq hx);obtain⟨c,rfl,hc,_⟩:=plainElem_int_inv Tryz.underlying3 hv;have e:=(h2 x hx).2;simp only[Prod.mk.injEq] at hc;rw[show OU 0=.lit (.int .i64 0) from rfl,hc.1] at e;simp only[OU,DataW.lit.injEq,Lit.int.injEq,true_and] at e;rw[hr,e,(h2 x hx).1]
theorem TT {w:World} {b n:Nat} {ν:Nms} (h:D6 w b n ν) (hn:n<maxLen) {ops:Array Oper} {rest:List Oper} {o:Oper} {a:Act} {Q:Exit→Act→World→Prop}
 (hg:o.guard=none) (m x v:Operand) (hop:o.op=Op.mapUpdate 311 m x v) (hm:a.eval m=.map (some b)) (k:List UInt8) (hk:k.length=32) (hx:a.eval x=.agg (AK k)) (c:Int) (hv:a.eval v=.int .i64 c) (hc:(Lit.int .i64 c).wf=true)
 (hK:∀w',D6 w' b (n+1) (ν.set k c)→Ch (fun k=>k=b) w w'→wpList Tryz.prog ops Q rest (a.put o.dst undef) w'):wpList Tryz.prog ops Q (o::rest) a w:=by
 obtain⟨D,h1,h2⟩:=h;refine wpList_mapUpdate_own w hg m x v _ hop 47 3 UU Tryz.underlying311 Lw b n D hm h1 hn _ _ (kl k) hx hv (Gq hk) (OU c) [] (plainElem_int Tryz.underlying3 hc) ?_;intro w' h3 h4;refine hK w' ⟨_,h3,fun z hz=>?_⟩ ((Ch.refl _ w).grown h4 (fun k hk=>.inl (by cases hk;rfl)));by_cases e:z=k
 · subst e
   refine⟨?_,?_⟩
   · rw[Maps.has_put_same h1.isMap (Rp hk)]
     exact(decide_eq_true (show z∈(Nms.set ν z c).names from List.mem_cons_self ..)).symm
   rw[Maps.atKey_put_same h1.isMap (Rp hk),Nms.L9]
 have hne:kl z≠kl k:=fun he=>e (Ub hz hk he)
 refine⟨?_,?_⟩
 · rw[Maps.has_put_other hne,(h2 z hz).1]
   refine decide_eq_decide.2 ?_
   show _↔z∈k::(Nms.cut ν k).names
   rw[List.mem_cons,Nms.Dd];exact⟨fun h=>.inr ⟨h,e⟩,fun h=>(h.resolve_left e).1⟩
 rw[Maps.atKey_put_other hne,(h2 z hz).2,Nms.Cg e]
end
end Go.Proofs.YtngbdbpofifimaaGreat.Store
namespace Go.Proofs.YtngbdbpofifimaaGreat.Law9
open Go.RowKit Go.Sort Go.Proofs.YtngbdbpofifimaaGreat.ShaW Go.Proofs.YtngbdbpofifimaaGreat.Path Go.Proofs.YtngbdbpofifimaaGreat.Store
def Wm.bare (x:Wm):Wm:=if x.gone then ⟨x.key,true,.slice none 0 0,[]⟩ else x
theorem Wm.DF (x:Wm):x.bare.key=x.key:=by unfold Wm.bare;split<;>rfl
theorem Wm.Mz {w:World} {x:Wm} (h:x.Good w):x.bare.Good w:=by
 unfold Wm.bare;split
 · exact⟨h.key,Bytes.nil w,fun h=>absurd rfl h⟩
 exact h
inductive D3:List Wm→List Wm→Prop
 | nil:D3 [] []
 | new {l out:List Wm} {x:Wm} (h:D3 l out) (hp:∀q∈out,q.key≠x.key):D3 (l ++ [x]) (out ++ [x.bare])
 | old {l out:List Wm} {x q:Wm} {i:Nat} (h:D3 l out) (hq:out[i]?=some q) (hk:q.key=x.key):D3 (l ++ [x]) (out.set i x.bare)
theorem D3.mem {l out:List Wm} (h:D3 l out):∀y∈out,∃x∈l,y=x.bare:=by
 induction h with
 | nil=>exact fun _ h=>by cases h
 | new h hp ih =>
  intro y hy;rcases List.mem_append.1 hy with hy|hy
  · obtain⟨x,hx,e⟩:=ih y hy
    exact⟨x,List.mem_append_left _ hx,e⟩
  exact⟨_,List.mem_append_right _ (List.mem_singleton.2 rfl),List.mem_singleton.1 hy⟩
 | old h hq hk ih =>
  intro y hy;rcases List.mem_or_eq_of_mem_set hy with hy|hy
  · obtain⟨x,hx,e⟩:=ih y hy
    exact⟨x,List.mem_append_left _ hx,e⟩
  exact⟨_,List.mem_append_right _ (List.mem_singleton.2 rfl),hy⟩
theorem D3.len {l out:List Wm} (h:D3 l out):out.length≤l.length:=by
 induction h with
 | nil=>exact Nat.le_refl _
 | new h hp ih=>simp only[List.length_append,List.length_singleton];omega
 | old h hq hk ih=>simp only[List.length_append,List.length_singleton,List.length_set];omega
theorem JR {α β:Type} (f:α→β):∀(l:List α) (i:Nat) (x q:α),l[i]?=some q→f x=f q→(l.set i x).map f=l.map f
 | [],i,x,q,h,_=>by simp at h
 | a::l,0,x,q,h,e=>by simp at h;subst h;simp[e]
 | a::l,i+1,x,q,h,e=>by
  have:=JR f l i x q (by simpa using h) e;simp[this]
theorem D3.nodup {l out:List Wm} (h:D3 l out):(out.map (·.key)).Nodup:=by
 induction h with
 | nil=>exact List.nodup_nil
 | new h hp ih =>
  rw[List.map_append,List.nodup_append];refine⟨ih,by simp,fun a ha b hb e=>?_⟩;obtain⟨q,hq,rfl⟩:=List.mem_map.1 ha;simp at hb;rw[Wm.DF] at hb;exact hp q hq (e.trans hb)
 | @old l out x q i h hq hk ih =>
  rw[JR _ _ _ _ _ hq (by rw[Wm.DF,hk])];exact ih
structure Idx (κ:Nms) (out:List Wm):Prop where
 mem:∀k:List UInt8,k∈κ.names↔∃q∈out,q.key=k
 at_:∀(i:Nat) q,out[i]?=some q→κ.get q.key=i
theorem Idx.new {κ:Nms} {out:List Wm} {x:Wm} (h:Idx κ out) (hx:∀q∈out,q.key≠x.key):Idx (κ.set x.key out.length) (out ++ [x.bare]):=by
 refine⟨fun k=>?_,fun i q hq=>?_⟩
 · show k∈x.key::(κ.cut x.key).names↔_
   rw[List.mem_cons,Nms.Dd,h.mem];constructor
   · rintro(rfl|⟨⟨q,hq,e⟩,_⟩)
     · exact⟨x.bare,by simp,Wm.DF x⟩
     exact⟨q,by simp[hq],e⟩
   rintro⟨q,hq,e⟩;rcases List.mem_append.1 hq with hq|hq
   · exact .inr ⟨⟨q,hq,e⟩,fun e2=>hx q hq (e.trans e2)⟩
   rw[List.mem_singleton.1 hq,Wm.DF] at e;exact .inl e.symm
 rcases Nat.lt_or_ge i out.length with hi|hi
 · rw[List.getElem?_append_left hi] at hq
   rw[Nms.Cg (fun e=>hx q (List.mem_of_getElem? hq) e)];exact h.at_ i q hq
 have hi2:=(List.getElem?_eq_some_iff.1 hq).1;rw[List.length_append,List.length_singleton] at hi2;have:i=out.length:=by omega
 subst this;rw[List.getElem?_append_right (Nat.le_refl _)] at hq;simp at hq;rw[←hq,Wm.DF,Nms.L9]
theorem Idx.old {κ:Nms} {out:List Wm} {x q:Wm} {i:Nat} (h:Idx κ out) (hq:out[i]?=some q) (hk:q.key=x.key):Idx κ (out.set i x.bare):=by
 have hi:=(List.getElem?_eq_some_iff.1 hq).1
 have hke:∀(j:Nat) (y:Wm),(out.set i x.bare)[j]?=some y→∃z:Wm,out[j]?=some z∧z.key=y.key:=fun j y hy=>by
  by_cases e:i=j
  · subst e
    rw[List.getElem?_set_self hi] at hy;cases hy;exact⟨q,hq,by rw[hk,Wm.DF]⟩
  rw[List.getElem?_set_ne e] at hy;exact⟨y,hy,rfl⟩
 refine⟨fun k=>?_,fun j y hy=>?_⟩
 · rw[h.mem]
   constructor
   · rintro⟨y,hy,e⟩
     obtain⟨j,hj⟩:=List.getElem?_of_mem hy;by_cases e2:i=j
     · subst e2
       rw[hq] at hj;cases hj;exact⟨x.bare,List.mem_of_getElem? (List.getElem?_set_self hi),by rw[Wm.DF, ←hk,e]⟩
     exact⟨y,List.mem_of_getElem? (by rw[List.getElem?_set_ne e2];exact hj),e⟩
   rintro⟨y,hy,e⟩;obtain⟨j,hj⟩:=List.getElem?_of_mem hy;obtain⟨z,hz,e2⟩:=hke j y hj;exact⟨z,List.mem_of_getElem? hz,e2.trans e⟩
 obtain⟨z,hz,e⟩:=hke j y hy;rw[←e];exact h.at_ j z hz
theorem Idx.nil:Idx [] []:=⟨fun k=>⟨fun h=>(by cases h),fun ⟨q,hq,_⟩=>(by cases hq)⟩,fun i q hq=>(by simp at hq)⟩
def I1:Wm:=⟨List.replicate 32 0,false,.slice none 0 0,[]⟩
theorem RF:(Tryz.prog.info? 134).bind (·.zero)=some (.agg I1.cells):=by kernel_rfl
theorem LK:∃i z,Tryz.prog.info? 134=some i∧i.zero=some z∧i.size=34∧i.bytes=64∧z.cells.size=34:=by
 obtain⟨i,h1,h2,h3,h4⟩:=info_parts (P:=Tryz.prog) (e:=134) (z:=.agg I1.cells) (size:=34) (bytes:=64) (by kernel_rfl);exact⟨i,_,h1,h2,h3,h4,rfl⟩
theorem Rn {x:Wm} (h:x.key.length=32) (hg:x.gone=true):x.cells.setIfInBounds 33 (.slice none 0 0)=x.bare.cells:=by
 unfold Wm.bare;rw[if_pos hg];apply Array.ext';rw[Array.toList_setIfInBounds,Wm.list,Wm.list];rw[List.set_append_right _ _ (by simp[h])];simp[h,hg]
theorem VJ {w0 w:World} {base:Nat} {v:Value} {out:List Wm} (h:Ck 134 34 Wm.cells w base v out) (hb:w0.heap.size≤base) (hg:∀x∈out,x.Good w0) (a:Adds w0 w) (hn:out.length≤100000) :
 Calls Tryz.prog 214 #[v,.func (.func 215) #[] #[]] w fun e w'=>e=.returned (.tuple #[])∧Adds w0 w' ∧
  ∃l' ao cap,v=.slice ao l'.length cap∧l'.length=out.length∧(l'.length≤cap∨l' = [])∧l'.Perm out∧C8 (l'.map Wm.ent)∧Cq w' ao l':=by
 by_cases hl:out = []
 · subst hl
   obtain⟨ao,cap,rfl⟩:=h.form;exact(AnyF.slices_SortFunc_none WG ao cap (.func (.func 215) #[] #[]) w).mono fun e w2 ⟨he,hw⟩=>⟨he,by rw[hw];exact a,[],ao,cap,rfl,rfl,.inr rfl,.refl _,List.Pairwise.nil,Cq.nil _ _⟩
 obtain⟨g,cap,cur,rfl,hbg,hcap,hrow,hsz,hx,_⟩:=h.open (fun x hx=>Wm.size (hg x hx).key) (List.length_pos_iff.2 hl)
 obtain⟨d,hd⟩:∃d:List WmK,d.map WmK.p=out:=by
  have:∀l:List Wm,(∀x∈l,x.key.length=32∧x.vv.oneCell'=true)→∃d:List WmK,d.map WmK.p=l:=by
   intro l
   induction l with
   | nil=>exact fun _=>⟨[],rfl⟩
   | cons x l ih =>
    intro h;obtain⟨d,hd⟩:=ih (fun y hy=>h y (by simp[hy]));have hx:=h x (by simp);exact⟨⟨x,hx.1,hx.2⟩::d,by simp[hd]⟩
  exact this out fun x hx=>⟨(hg x hx).key,by obtain⟨ao,cap,e,_⟩:=(hg x hx).val.form;rw[e];rfl⟩
 have hdl:d.length=out.length:=by rw[←hd,List.length_map]
 have hH:HoldsK FV 34 w g 0 d.toArray:=S4 hrow fun i x hi=>by
  have hi':d[i]?=some x:=by simpa using hi
  have hil:=(List.getElem?_eq_some_iff.1 hi').1;exact⟨by omega,hx i x.p (by rw[←hd,List.getElem?_map,hi'];rfl)⟩
 have hs:=Wh (cap:=cap) hH (Ac hrow) (by simp;omega);rw[List.size_toArray,hdl] at hs;refine hs.mono fun e w2 ⟨he,d',h1,h2,h3,h4,h5⟩=>?_
 have hw2:Adds w0 w2:=a.trans h5 (fun k hk=>.inr (by omega));have hp:(d'.toList.map WmK.p).Perm out:=by rw[←hd];exact h2.map _
 have hlen:(d'.toList.map WmK.p).length=out.length:=hp.length_eq;refine⟨he,hw2,d'.toList.map WmK.p,some ⟨g,0,none⟩,cap,by rw[hlen],hlen,.inl (by rw[hlen];exact hcap),hp,?_,fun x hx=>(hg x (hp.mem_iff.1 hx)).Af hw2 (fun _=>fEq),fun i x hi=>⟨g,0,rfl,?_⟩⟩
 · unfold C8
   rw[List.map_map,List.pairwise_map];exact h3
 rw[List.getElem?_map] at hi;cases hy:d'[i]? with
 | none=>rw[Array.getElem?_toList,hy] at hi;cases hi
 | some y =>
  rw[Array.getElem?_toList,hy] at hi;cases hi;exact Sm h4 hy
structure J6 (w wr:World) (b:Nat) (v:Value) (l out:List Wm) (k:Nat):Prop where
 lasts:D3 (l.take k) out
 row:Ck 134 34 Wm.cells wr w.heap.size v out
 idx:∃κ,D6 wr b k κ∧Idx κ out
 bge:w.heap.size≤b∧v.ownBlock≠some b
 world:Adds w wr
theorem J6.adds {w wr w':World} {b:Nat} {v:Value} {l out:List Wm} {k:Nat} (h:J6 w wr b v l out k) (a:Adds wr w'):J6 w w' b v l out k:=by
 obtain⟨κ,h1,h2⟩:=h.idx;exact⟨h.lasts,h.row.adds a,⟨κ,h1.Af a id,h2⟩,h.bge,h.world.trans a (fun _=>fEq)⟩
end Go.Proofs.YtngbdbpofifimaaGreat.Law9
namespace Go.Proofs.YtngbdbpofifimaaGreat.Law9
open Go.RowKit Go.Proofs.YtngbdbpofifimaaGreat.ShaW Go.Proofs.YtngbdbpofifimaaGreat.Path Go.Proofs.YtngbdbpofifimaaGreat.Store
def Re (L:List Wm) (x:Wm):Prop:=∃L1 y L2,L=L1++y::L2∧x=y.bare∧∀z∈L2,z.key≠y.key
theorem Kk {L:List Wm} {x0 x:Wm}:Re (L ++ [x0]) x↔x=x0.bare∨(Re L x∧x.key≠x0.key):=by
 constructor
 · rintro⟨L1,y,L2,e,hx,hz⟩
   rcases List.eq_nil_or_concat L2 with rfl|⟨L3,z,rfl⟩
   · have:=List.append_inj' (s₂:=L1) (t₂ := [y]) e rfl
     obtain⟨_,e2⟩:=this;injection e2 with e2;subst e2;exact .inl hx
   have e':L ++ [x0]=(L1++y::L3) ++ [z]:=by rw[e];simp
   obtain⟨e1,e2⟩:=List.append_inj' e' rfl;injection e2 with e2;subst e2;refine .inr ⟨⟨L1,y,L3,e1,hx,fun w hw=>hz w (by simp[hw])⟩,?_⟩;rw[hx,Wm.DF];exact(hz x0 (by simp)).symm
 rintro(rfl|⟨⟨L1,y,L2,rfl,rfl,hz⟩,hk⟩)
 · exact⟨L,x0,[],rfl,rfl,fun z hz=>by cases hz⟩
 refine⟨L1,y,L2 ++ [x0],by simp,rfl,fun z hm=>?_⟩;rcases List.mem_append.1 hm with hm|hm
 · exact hz z hm
 rw[List.mem_singleton.1 hm];rw[Wm.DF] at hk;exact hk.symm
theorem D3.spec {L out:List Wm} (h:D3 L out):∀x,x∈out↔Re L x:=by
 induction h with
 | nil =>
  intro x;constructor
  · intro h;cases h
  rintro⟨L1,y,L2,e,_⟩;simp at e
 | @new L out x0 h hp ih =>
  intro x;rw[Kk, ←ih,List.mem_append,List.mem_singleton];constructor
  · rintro(h|h)
    · exact .inr ⟨h,hp x h⟩
    exact .inl h
  rintro(h|h)
  · exact .inr h
  exact .inl h.1
 | @old L out x0 q i h hq hk ih =>
  intro x;have hi:=(List.getElem?_eq_some_iff.1 hq).1;have hnd:=h.nodup;rw[Kk, ←ih]
  have uniq:∀j y,out[j]?=some y→y.key=x0.key→j=i:=fun j y hy e=>by
   have hj:=(List.getElem?_eq_some_iff.1 hy).1;have h1:=(List.getElem?_eq_some_iff.1 hy).2;have h2:=(List.getElem?_eq_some_iff.1 hq).2;have hpw:=List.pairwise_iff_getElem.1 hnd
   have hke:(out.map (·.key))[j]'(by simpa using hj)=(out.map (·.key))[i]'(by simpa using hi):=by
    rw[List.getElem_map,List.getElem_map,h1,h2,e,hk]
   rcases Nat.lt_trichotomy j i with h3|h3|h3
   · exact absurd hke (hpw j i (by simpa using hj) (by simpa using hi) h3)
   · exact h3
   exact absurd hke.symm (hpw i j (by simpa using hi) (by simpa using hj) h3)
  constructor
  · intro hm
    obtain⟨j,hj⟩:=List.getElem?_of_mem hm;by_cases e:i=j
    · subst e
      rw[List.getElem?_set_self hi] at hj;cases hj;exact .inl rfl
    rw[List.getElem?_set_ne e] at hj;exact .inr ⟨List.mem_of_getElem? hj,fun e2=>e (uniq j x hj e2).symm⟩
  rintro(rfl|⟨hm,hk2⟩)
  · exact List.mem_of_getElem? (List.getElem?_set_self hi)
  obtain⟨j,hj⟩:=List.getElem?_of_mem hm
  have hji:i≠j:=fun e=>by
   subst e;rw[hq] at hj;cases hj;exact hk2 hk
  exact List.mem_of_getElem? (by rw[List.getElem?_set_ne hji];exact hj)
theorem Ea {l:List Wm} (h:(l.map (·.key)).Nodup):l.Nodup:=by
 induction l with
 | nil=>exact List.nodup_nil
 | cons x l ih =>
  obtain⟨h1,h2⟩:=List.nodup_cons.1 h;exact List.nodup_cons.2 ⟨fun hm=>h1 (List.mem_map_of_mem hm),ih h2⟩
theorem D3.Yh {A l out:List Wm} (h:D3 (A++l) out) (hA:(A.map (·.key)).Nodup) (hl:(l.map (·.key)).Nodup) (hg:∀a∈A,a.gone=false) :
 out.Perm (l.map Wm.bare++A.filter fun a => !decide (a.key∈l.map (·.key))):=by
 have hbk:(l.map Wm.bare).map (·.key)=l.map (·.key):=by rw[List.map_map];exact List.map_congr_left fun x _=>Wm.DF x
 have nd2:(l.map Wm.bare++A.filter fun a => !decide (a.key∈l.map (·.key))).Nodup:=by
  refine Ea ?_;rw[List.map_append,hbk];refine List.nodup_append.2 ⟨hl,hA.sublist (List.filter_sublist.map _),fun a ha b hb e=>?_⟩;obtain⟨y,hy,rfl⟩:=List.mem_map.1 hb;have:=(List.mem_filter.1 hy).2;rw[←e] at this;simp only[Bool.not_eq_true',decide_eq_false_iff_not] at this;exact this ha
 refine(List.perm_ext_iff_of_nodup (Ea h.nodup) nd2).2 fun x=>?_
 rw[h.spec,List.mem_append];constructor
 · rintro⟨L1,y,L2,e,rfl,hz⟩
   have hy:y∈A++l:=by rw[e];simp
   rcases List.append_eq_append_iff.1 e with⟨cs,e1,e2⟩|⟨bs,e1,e2⟩
   · exact .inl (List.mem_map_of_mem (by rw[e2];simp))
   match bs,e1,e2 with
   | [],e1,e2=>exact .inl (List.mem_map_of_mem (by rw[show l=y::L2 from e2.symm];simp))
   | b::bs,e1,e2 =>
    injection e2 with e3 e4;subst e3;have hyA:y∈A:=by rw[e1];simp
    have hb:y.bare=y:=by unfold Wm.bare;rw[if_neg (by rw[hg y hyA];simp)]
    rw[hb];refine .inr (List.mem_filter.2 ⟨hyA,?_⟩);simp only[Bool.not_eq_true',decide_eq_false_iff_not];intro hm;obtain⟨z,hz1,hz2⟩:=List.mem_map.1 hm;exact hz z (by rw[e4];simp[hz1]) hz2
 rintro(hm|hm)
 · obtain⟨y,hy,rfl⟩:=List.mem_map.1 hm
   obtain⟨l1,l2,e⟩:=List.append_of_mem hy;refine⟨A++l1,y,l2,by rw[e];simp,rfl,fun z hz e2=>?_⟩;rw[e,List.map_append,List.map_cons,List.nodup_append] at hl;exact(List.nodup_cons.1 hl.2.1).1 (by rw[←e2];exact List.mem_map_of_mem hz)
 obtain⟨hxA,hx⟩:=List.mem_filter.1 hm;simp only[Bool.not_eq_true',decide_eq_false_iff_not] at hx;obtain⟨a1,a2,e⟩:=List.append_of_mem hxA;refine⟨a1,x,a2++l,by rw[e];simp,?_,fun z hz e2=>?_⟩
 · unfold Wm.bare;rw[if_neg (by rw[hg x hxA];simp)]
 rcases List.mem_append.1 hz with hz|hz
 · rw[e,List.map_append,List.map_cons,List.nodup_append] at hA
   exact(List.nodup_cons.1 hA.2.1).1 (by rw[←e2];exact List.mem_map_of_mem hz)
 exact hx (by rw[←e2];exact List.mem_map_of_mem hz)
theorem NB:∀l:List Wm,((l.map Wm.bare).filter fun x => !x.gone).map Wm.ent=FZ (l.map Wm.wp)
 | []=>rfl
 | x::l=>by
  have ih:=NB l;unfold FZ at ih ⊢;cases hg:x.gone with
  | true =>
   have hb:x.bare.gone=true:=by unfold Wm.bare;rw[if_pos hg]
   simp[hb,Wm.wp,hg];simpa using ih
  | false =>
   have hb:x.bare=x:=by unfold Wm.bare;rw[if_neg (by rw[hg];simp)]
   simp[hb,Wm.wp,hg,Wm.ent];simpa[Wm.ent] using ih
theorem SB (l:List Wm):Fq (l.map Wm.wp)=l.map (·.key):=by simp[Fq,Wm.wp]
theorem D3.ents {M:AS} {A l out:List Wm} (h:D3 (A++l) out) (hM:A.map Wm.ent=M) (hA:(keysOf M).Nodup) (hl:(l.map (·.key)).Nodup) (hg:∀a∈A,a.gone=false) :
 ((out.filter fun x => !x.gone).map Wm.ent).Perm (CT M (l.map Wm.wp)):=by
 have hA':(A.map (·.key)).Nodup:=by
  have:A.map (·.key)=keysOf M:=by rw[←hM];simp[keysOf,Wm.ent]
  rw[this];exact hA
 refine((h.Yh hA' hl hg).filter _ |>.map _).trans ?_;rw[List.filter_append,List.map_append,NB];unfold CT;rw[SB, ←hM];refine List.Perm.append_left _ ?_;rw[List.filter_map,List.filter_filter];refine List.Perm.of_eq ?_
 congr 1
 refine List.filter_congr fun a ha=>?_
 rw[hg a ha];by_cases hm:a.key∈l.map (·.key)
 · have:decide (a.ent.1∈l.map (·.key))=true:=decide_eq_true hm
   simp only[Function.comp_apply,this,decide_eq_true hm];rfl
 have:decide (a.ent.1∈l.map (·.key))=false:=decide_eq_false hm;simp only[Function.comp_apply,this,decide_eq_false hm];rfl
end Go.Proofs.YtngbdbpofifimaaGreat.Law9
