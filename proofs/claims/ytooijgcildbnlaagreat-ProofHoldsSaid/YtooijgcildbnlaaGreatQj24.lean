/- Laws of the layers below. -/
import Derived.Sort.KeysCollected
import Derived.StringKeys
import Derived.Maps.Keyed
import Derived.Test.YtooijgcildbnlaaGreatQj23
set_option maxHeartbeats 3200000
set_option maxRecDepth 100000
set_option linter.unusedVariables false
namespace Go.Proofs.YtooijgcildbnlaaGreat.Store
open Go.RowKit Go.Proofs.YtooijgcildbnlaaGreat.ShaW Go.Proofs.YtooijgcildbnlaaGreat.Path
open Go.Maps (Keyed)
abbrev Nms:=List (List UInt8×Int)
def Nms.names (ν:Nms):List (List UInt8):=ν.map Prod.fst
def Nms.get (ν:Nms) (x:List UInt8):Int:=((ν.find? (fun p=>decide (p.1=x))).map Prod.snd).getD 0
def Nms.cut (ν:Nms) (x:List UInt8):Nms:=ν.filter (fun p => !decide (p.1=x))
def Nms.set (ν:Nms) (x:List UInt8) (c:Int):Nms:=(x,c)::ν.cut x
theorem Nms.VB {ν:Nms} {x:List UInt8} {p:List UInt8×Int}:p∈ν.cut x↔p∈ν∧p.1≠x:=by simp[Nms.cut]
theorem Nms.C9 {ν:Nms} {x z:List UInt8}:z∈(ν.cut x).names↔z∈ν.names∧z≠x:=by
 simp only[Nms.names,List.mem_map,Nms.VB];constructor
 · rintro⟨p,⟨h1,h2⟩,rfl⟩;exact⟨⟨p,h1,rfl⟩,h2⟩
 rintro⟨⟨p,h1,rfl⟩,h2⟩;exact⟨p,⟨h1,h2⟩,rfl⟩
theorem Nms.Lm {ν:Nms} (h:ν.names.Nodup) (x:List UInt8):(ν.cut x).names.Nodup:=by
 unfold Nms.names Nms.cut at *;exact h.sublist (List.filter_sublist.map _)
theorem Nms.RI {ν:Nms} (h:ν.names.Nodup) (x:List UInt8) (c:Int):(ν.set x c).names.Nodup:=by
 show(x::(ν.cut x).names).Nodup
 exact List.nodup_cons.2 ⟨fun hm=>(Nms.C9.1 hm).2 rfl,Nms.Lm h x⟩
theorem Nms.NS {ν:Nms} {x:List UInt8} (h:x∉ν.names):ν.cut x=ν:=by
 unfold Nms.cut;refine List.filter_eq_self.2 (fun p hp=>?_);have:p.1≠x:=fun e=>h (List.mem_map.2 ⟨p,hp,e⟩)
 simp[this]
theorem Nms.Jv {ν:Nms} {x:List UInt8} {c:Int}:(ν.set x c).get x=c:=by simp[Nms.get,Nms.set]
theorem Nms.P0 {ν:Nms} {x z:List UInt8} (h:z≠x):(ν.cut x).get z=ν.get z:=by
 unfold Nms.get Nms.cut
 congr 2
 rw[List.find?_filter]
 congr 1
 funext p
 by_cases e:p.1=z
 · simp[e,h]
 simp[e]
theorem Nms.CQ {ν:Nms} {x z:List UInt8} {c:Int} (h:z≠x):(ν.set x c).get z=ν.get z:=by
 have:(ν.set x c).get z=(ν.cut x).get z:=by
  unfold Nms.get Nms.set;rw[List.find?_cons_of_neg (by simp[Ne.symm h])]
 rw[this,Nms.P0 h]
theorem Nms.get_none {ν:Nms} {x:List UInt8} (h:x∉ν.names):ν.get x=0:=by
 unfold Nms.get;rw[List.find?_eq_none.2 (fun p hp=>by have:p.1≠x:=fun e=>h (List.mem_map.2 ⟨p,hp,e⟩);simp[this])];rfl
theorem Nms.MZ {ν:Nms} {x:List UInt8}:(ν.cut x).get x=0:=Nms.get_none (fun h=>(Nms.C9.1 h).2 rfl)
theorem Nms.get_mem {ν:Nms} (hn:ν.names.Nodup) {p:List UInt8×Int} (hp:p∈ν):ν.get p.1=p.2:=by
 induction ν with
 | nil=>cases hp
 | cons q ν ih =>
  rcases List.mem_cons.1 hp with rfl|h
  · simp[Nms.get]
  obtain⟨h1,h2⟩:=List.nodup_cons.1 (show(q.1::Nms.names ν).Nodup from hn);have hne:q.1≠p.1:=fun e=>h1 (e▸List.mem_map.2 ⟨p,h,rfl⟩)
  rw[←ih h2 h];unfold Nms.get;rw[List.find?_cons_of_neg (by simp[hne])]
theorem Nms.Ks {ν:Nms} (hn:ν.names.Nodup) (x:List UInt8):(ν.cut x).length+(if x∈ν.names then 1 else 0)=ν.length:=by
 induction ν with
 | nil=>rfl
 | cons q ν ih =>
  obtain⟨h1,h2⟩:=List.nodup_cons.1 (show(q.1::Nms.names ν).Nodup from hn);have ih:=ih h2;by_cases e:q.1=x
  · subst e
    have hc:Nms.cut (q::ν) q.1=Nms.cut ν q.1:=by simp[Nms.cut]
    have hm:q.1∈Nms.names (q::ν):=List.mem_cons_self;rw[hc,if_pos hm,Nms.NS h1,List.length_cons]
  have hc:Nms.cut (q::ν) x=q::Nms.cut ν x:=by simp[Nms.cut,e]
  have hm:x∈Nms.names (q::ν)↔x∈Nms.names ν:=by
   show x∈q.1::Nms.names ν↔_
   rw[List.mem_cons];exact⟨fun h=>h.resolve_left (fun h=>e h.symm),.inr⟩
  rw[hc,List.length_cons,List.length_cons];by_cases hx:x∈Nms.names ν
  · rw[if_pos (hm.2 hx)]
    rw[if_pos hx] at ih;omega
  rw[if_neg (fun h=>hx (hm.1 h))];rw[if_neg hx] at ih;omega
noncomputable abbrev Ki:Value→Option (DataW Value×List MemPlace):=plainElem Tryz.prog 3
theorem NZ:Keyed Tryz.prog 9:=Go.Maps.string_keyed Tryz.underlying9
theorem KZ (w:World):(zeroValue 3).run Tryz.prog w=.ok (.int .i64 0) w:=by kernel_rfl
def MV (x:Int):DataW Value:=.lit (.int .i64 x)
theorem Fu (x:List UInt8) (hx:x.length≤maxLen):keyOf Tryz.prog 9 (.string (BS x))=some (.string x):=by
 have:=Go.WideMaps.keyOf_string_mk (P:=Tryz.prog) (k:=9) Tryz.underlying9 (s:=BS x) (by show x.toArray.size≤_;simpa using hx);simpa[BS] using this
theorem Lq {x:List UInt8} (hx:x.length≤maxLen):WideAt.IsKeyLit (.string x):=NZ.key (Fu x hx)
structure BV (w:World) (b n:Nat) (ν:Nms):Prop where
 ex:∃D,w.ownsMap Tryz.prog 9 Ki b n D∧Maps.size D=ν.length∧∀x:List UInt8,Maps.has D (.string x)=decide (x∈ν.names)∧D.atKey (.string x) (MV 0)=MV (ν.get x)
 nd:ν.names.Nodup
 len:∀x∈ν.names,x.length≤maxLen
section
variable {w w' : World} {b n : Nat} {ν : Nms}
theorem BV.An {F:Nat→Prop} (h:BV w b n ν) (hc:Ch F w w') (hb:¬F b):BV w' b n ν:=by
 obtain⟨⟨D,⟨es,clock,hg,r⟩,h2⟩,h3,h4⟩:=h;exact⟨⟨D,⟨es,clock,hc.row hg hb,r⟩,h2⟩,h3,h4⟩
theorem BV.lt (h:BV w b n ν):b<w.heap.size:=by
 obtain⟨⟨D,h1,h2⟩,h3,h4⟩:=h;exact h1.lt
theorem BV.made (w:World):BV (w.alloc (.map #[] 0)) w.heap.size 0 [] :=
 ⟨⟨_,World.ownsMap_made w _ _ _,rfl,fun x=>⟨rfl,by simp[DataW.atKey,Nms.get]⟩⟩,List.nodup_nil,fun x hx=>by cases hx⟩
theorem BV.look (h:BV w b n ν) {x:List UInt8} (hx:x.length≤maxLen) :
 (Instr.lookup 280 (.map (some b)) (.string (BS x)) true).run Tryz.prog w=.ok (.tuple #[.int .i64 (ν.get x),.bool (decide (x∈ν.names))]) w:=by
 obtain⟨⟨D,h1,_,h2⟩,_⟩:=h;obtain⟨v,ps,hr,hv⟩:=h1.look_ok NZ Tryz.underlying280 (KZ w) (plainElem_int Tryz.underlying3 (by decide)) (Fu x hx);obtain⟨c,rfl,hc,_⟩:=plainElem_int_inv Tryz.underlying3 hv;have e:=(h2 x).2;simp only[Prod.mk.injEq] at hc;rw[show MV 0=.lit (.int .i64 0) from rfl,hc.1] at e;simp only[MV,DataW.lit.injEq,Lit.int.injEq,true_and] at e;rw[hr,e,(h2 x).1]
theorem BV.count (h:BV w b n ν) (ty:TypeId):(Builtin.len_ #[280] ty #[.map (some b)]).run Tryz.prog w=.ok (.int .i64 (ν.length:Nat)) w:=by
 obtain⟨⟨D,h1,hs,h2⟩,_⟩:=h;rw[h1.len Tryz.underlying280 ty,hs]
theorem L0 {b:Nat} (h:w.mapTurned w' b):Ch (fun k=>k=b) w w':=(Ch.refl _ w).grown h.grown (fun k hk=>.inl (by cases hk;rfl))
theorem BV.put (h:BV w b n ν) (hn:n<maxLen) {x:List UInt8} (hx:x.length≤maxLen) {c:Int} (hc:(Lit.int .i64 c).wf=true) :
 ∃w',(Instr.mapUpdate 280 (.map (some b)) (.string (BS x)) (.int .i64 c)).run Tryz.prog w=.ok () w'∧BV w' b (n+1) (ν.set x c)∧Ch (fun k=>k=b) w w':=by
 obtain⟨⟨D,h1,hs,h2⟩,h3,h4⟩:=h;obtain⟨w',hr,ho,ht⟩:=h1.store NZ Tryz.underlying280 hn (Fu x hx) (plainElem_int Tryz.underlying3 hc);refine⟨w',hr,⟨⟨_,ho,?_,fun z=>?_⟩,Nms.RI h3 x c,fun z hz=>?_⟩,L0 ht⟩
 · rw[Maps.size_put (h1.tidy NZ),(h2 x).1,hs]
   have hl:=Nms.Ks h3 x
   show _=(Nms.cut ν x).length+1
   by_cases e:x∈ν.names
   · rw[if_pos e] at hl
     rw[if_pos (decide_eq_true e)];omega
   rw[if_neg e] at hl;rw[if_neg (by simpa using e)];omega
 · by_cases e:z=x
   · subst e
     refine⟨?_,?_⟩
     · rw[Maps.has_put_same h1.isMap (Lq hx)]
       exact(decide_eq_true (show z∈(Nms.set ν z c).names from List.mem_cons_self ..)).symm
     rw[Maps.atKey_put_same h1.isMap (Lq hx),Nms.Jv];rfl
   have hne:(Lit.string z)≠.string x:=fun h=>e (by injection h)
   refine⟨?_,?_⟩
   · rw[Maps.has_put_other hne,(h2 z).1]
     refine decide_eq_decide.2 ?_
     show _↔z∈x::(Nms.cut ν x).names
     rw[List.mem_cons,Nms.C9];exact⟨fun h=>.inr ⟨h,e⟩,fun h=>(h.resolve_left e).1⟩
   rw[Maps.atKey_put_other hne,(h2 z).2,Nms.CQ e]
 rcases List.mem_cons.1 (show z∈x::(Nms.cut ν x).names from hz) with rfl|h
 · exact hx
 exact h4 z (Nms.C9.1 h).1
theorem BV.drop (h:BV w b n ν) {x:List UInt8} (hx:x.length≤maxLen) (ty:TypeId) :
 ∃w',(Builtin.delete_ #[280,9] ty #[.map (some b),.string (BS x)]).run Tryz.prog w=.ok (.tuple #[]) w'∧BV w' b n (ν.cut x)∧Ch (fun k=>k=b) w w':=by
 obtain⟨⟨D,h1,hs,h2⟩,h3,h4⟩:=h;obtain⟨w',hr,ho,ht⟩:=h1.drop NZ Tryz.underlying280 (Fu x hx) ty;refine⟨w',hr,⟨⟨_,ho,?_,fun z=>?_⟩,Nms.Lm h3 x,fun z hz=>h4 z (Nms.C9.1 hz).1⟩,L0 ht⟩
 · have h5:=Maps.size_del (k:=.string x) (h1.tidy NZ)
   have hl:=Nms.Ks h3 x;rw[(h2 x).1,hs] at h5;by_cases e:x∈ν.names
   · rw[if_pos e] at hl
     rw[if_pos (decide_eq_true e)] at h5;omega
   rw[if_neg e] at hl;rw[if_neg (by simpa using e)] at h5;omega
 by_cases e:z=x
 · subst e
   refine⟨?_,?_⟩
   · rw[Maps.has_del_same]
     exact(decide_eq_false (fun h=>(Nms.C9.1 h).2 rfl)).symm
   rw[Maps.atKey_del_same,Nms.MZ]
 have hne:(Lit.string z)≠.string x:=fun h=>e (by injection h)
 refine⟨?_,?_⟩
 · rw[Maps.has_del_other hne,(h2 z).1]
   refine decide_eq_decide.2 ?_;rw[Nms.C9];exact⟨fun h=>⟨h,e⟩,fun h=>h.1⟩
 rw[Maps.atKey_del_other hne,(h2 z).2,Nms.P0 e]
end
end Go.Proofs.YtooijgcildbnlaaGreat.Store
namespace Go.Proofs.YtooijgcildbnlaaGreat.Store
open Go.RowKit Go.Proofs.YtooijgcildbnlaaGreat.Path Go.Maps
structure Dd (w:World) (b n:Nat) (ν:Nms):Prop where
 ex:∃D,w.ownsMap Tryz.prog 24 Ki b n D∧∀x:List UInt8,x.length=32→Maps.has D (kl x)=decide (x∈ν.names)∧D.atKey (kl x) (MV 0)=MV (ν.get x)
section
variable {w w' : World} {b n : Nat} {ν : Nms}
theorem Dd.An {F:Nat→Prop} (h:Dd w b n ν) (hc:Ch F w w') (hb:¬F b):Dd w' b n ν:=by
 obtain⟨D,⟨es,clock,hg,r⟩,h2⟩:=h;exact⟨D,⟨es,clock,hc.row hg hb,r⟩,h2⟩
theorem Dd.lt (h:Dd w b n ν):b<w.heap.size:=by
 obtain⟨D,h1,h2⟩:=h;exact h1.lt
theorem Dd.made (w:World):Dd (w.alloc (.map #[] 0)) w.heap.size 0 [] :=
 ⟨_,World.ownsMap_made w _ _ _,fun x _=>⟨rfl,by simp[DataW.atKey,Nms.get]⟩⟩
theorem Dd.look (h:Dd w b n ν) {x:List UInt8} (hx:x.length=32) :
 (Instr.lookup 339 (.map (some b)) (.agg (AM x)) true).run Tryz.prog w=.ok (.tuple #[.int .i64 (ν.get x),.bool (decide (x∈ν.names))]) w:=by
 obtain⟨D,h1,h2⟩:=h;obtain⟨v,ps,hr,hv⟩:=h1.look_ok To Tryz.underlying339 (KZ w) (plainElem_int Tryz.underlying3 (by decide)) (IV hx);obtain⟨c,rfl,hc,_⟩:=plainElem_int_inv Tryz.underlying3 hv;have e:=(h2 x hx).2;simp only[Prod.mk.injEq] at hc;rw[show MV 0=.lit (.int .i64 0) from rfl,hc.1] at e;simp only[MV,DataW.lit.injEq,Lit.int.injEq,true_and] at e;rw[hr,e,(h2 x hx).1]
theorem QP {w:World} {b n:Nat} {ν:Nms} (h:Dd w b n ν) (hn:n<maxLen) {ops:Array Oper} {rest:List Oper} {o:Oper} {a:Act} {Q:Exit→Act→World→Prop}
 (hg:o.guard=none) (m x v:Operand) (hop:o.op=Op.mapUpdate 339 m x v) (hm:a.eval m=.map (some b)) (k:List UInt8) (hk:k.length=32) (hx:a.eval x=.agg (AM k)) (c:Int) (hv:a.eval v=.int .i64 c) (hc:(Lit.int .i64 c).wf=true)
 (hK:∀w',Dd w' b (n+1) (ν.set k c)→Ch (fun k=>k=b) w w'→wpList Tryz.prog ops Q rest (a.put o.dst undef) w'):wpList Tryz.prog ops Q (o::rest) a w:=by
 obtain⟨D,h1,h2⟩:=h;refine wpList_mapUpdate_own w hg m x v _ hop 24 3 To Tryz.underlying339 Ki b n D hm h1 hn _ _ (kl k) hx hv (IV hk) (MV c) [] (plainElem_int Tryz.underlying3 hc) ?_;intro w' h3 h4;refine hK w' ⟨_,h3,fun z hz=>?_⟩ ((Ch.refl _ w).grown h4 (fun k hk=>.inl (by cases hk;rfl)));by_cases e:z=k
 · subst e
   refine⟨?_,?_⟩
   · rw[Maps.has_put_same h1.isMap (Tf hk)]
     exact(decide_eq_true (show z∈(Nms.set ν z c).names from List.mem_cons_self ..)).symm
   rw[Maps.atKey_put_same h1.isMap (Tf hk),Nms.Jv]
 have hne:kl z≠kl k:=fun he=>e (V3 hz hk he)
 refine⟨?_,?_⟩
 · rw[Maps.has_put_other hne,(h2 z hz).1]
   refine decide_eq_decide.2 ?_
   show _↔z∈k::(Nms.cut ν k).names
   rw[List.mem_cons,Nms.C9];exact⟨fun h=>.inr ⟨h,e⟩,fun h=>(h.resolve_left e).1⟩
 rw[Maps.atKey_put_other hne,(h2 z hz).2,Nms.CQ e]
end
end Go.Proofs.YtooijgcildbnlaaGreat.Store
namespace Go.Proofs.YtooijgcildbnlaaGreat.BE
open Go.RowKit Go.Sort Go.Proofs.YtooijgcildbnlaaGreat.ShaW Go.Proofs.YtooijgcildbnlaaGreat.Path Go.Proofs.YtooijgcildbnlaaGreat.Store
def Wm.bare (x:Wm):Wm:=if x.gone then ⟨x.key,true,.slice none 0 0,[]⟩ else x
theorem Wm.Cx (x:Wm):x.bare.key=x.key:=by unfold Wm.bare;split<;>rfl
theorem Wm.LQ {w:World} {x:Wm} (h:x.Good w):x.bare.Good w:=by
 unfold Wm.bare;split
 · exact⟨h.key,Bytes.nil w,fun h=>absurd rfl h⟩
 exact h
inductive Dg:List Wm→List Wm→Prop
 | nil:Dg [] []
 | new {l out:List Wm} {x:Wm} (h:Dg l out) (hp:∀q∈out,q.key≠x.key):Dg (l ++ [x]) (out ++ [x.bare])
 | old {l out:List Wm} {x q:Wm} {i:Nat} (h:Dg l out) (hq:out[i]?=some q) (hk:q.key=x.key):Dg (l ++ [x]) (out.set i x.bare)
theorem Dg.mem {l out:List Wm} (h:Dg l out):∀y∈out,∃x∈l,y=x.bare:=by
 induction h with
 | nil=>exact fun _ h=>by cases h
 | new h hp ih =>
  intro y hy;rcases List.mem_append.1 hy with hy|hy
  · obtain⟨x,hx,e⟩:=ih y hy
    exact⟨x,List.mem_append_left _ hx,e⟩
  exact⟨_,List.mem_append_right _ (List.mem_singleton.2 rfl),List.mem_singleton.1 hy⟩
 | old h hq hk ih =>
  intro y hy;rcases List.mem_or_eq_of_mem_set hy with hy|hy
  · obtain⟨x,hx,e⟩:=ih y hy
    exact⟨x,List.mem_append_left _ hx,e⟩
  exact⟨_,List.mem_append_right _ (List.mem_singleton.2 rfl),hy⟩
theorem Dg.len {l out:List Wm} (h:Dg l out):out.length≤l.length:=by
 induction h with
 | nil=>exact Nat.le_refl _
 | new h hp ih=>simp only[List.length_append,List.length_singleton];omega
 | old h hq hk ih=>simp only[List.length_append,List.length_singleton,List.length_set];omega
theorem IT {α β:Type} (f:α→β):∀(l:List α) (i:Nat) (x q:α),l[i]?=some q→f x=f q→(l.set i x).map f=l.map f
 | [],i,x,q,h,_=>by simp at h
 | a::l,0,x,q,h,e=>by simp at h;subst h;simp[e]
 | a::l,i+1,x,q,h,e=>by
  have:=IT f l i x q (by simpa using h) e;simp[this]
theorem Dg.nodup {l out:List Wm} (h:Dg l out):(out.map (·.key)).Nodup:=by
 induction h with
 | nil=>exact List.nodup_nil
 | new h hp ih =>
  rw[List.map_append,List.nodup_append];refine⟨ih,by simp,fun a ha b hb e=>?_⟩;obtain⟨q,hq,rfl⟩:=List.mem_map.1 ha;simp at hb;rw[Wm.Cx] at hb;exact hp q hq (e.trans hb)
 | @old l out x q i h hq hk ih =>
  rw[IT _ _ _ _ _ hq (by rw[Wm.Cx,hk])];exact ih
structure Idx (κ:Nms) (out:List Wm):Prop where
 mem:∀k:List UInt8,k∈κ.names↔∃q∈out,q.key=k
 at_:∀(i:Nat) q,out[i]?=some q→κ.get q.key=i
theorem Idx.new {κ:Nms} {out:List Wm} {x:Wm} (h:Idx κ out) (hx:∀q∈out,q.key≠x.key):Idx (κ.set x.key out.length) (out ++ [x.bare]):=by
 refine⟨fun k=>?_,fun i q hq=>?_⟩
 · show k∈x.key::(κ.cut x.key).names↔_
   rw[List.mem_cons,Nms.C9,h.mem];constructor
   · rintro(rfl|⟨⟨q,hq,e⟩,_⟩)
     · exact⟨x.bare,by simp,Wm.Cx x⟩
     exact⟨q,by simp[hq],e⟩
   rintro⟨q,hq,e⟩;rcases List.mem_append.1 hq with hq|hq
   · exact .inr ⟨⟨q,hq,e⟩,fun e2=>hx q hq (e.trans e2)⟩
   rw[List.mem_singleton.1 hq,Wm.Cx] at e;exact .inl e.symm
 rcases Nat.lt_or_ge i out.length with hi|hi
 · rw[List.getElem?_append_left hi] at hq
   rw[Nms.CQ (fun e=>hx q (List.mem_of_getElem? hq) e)];exact h.at_ i q hq
 have hi2:=(List.getElem?_eq_some_iff.1 hq).1;rw[List.length_append,List.length_singleton] at hi2;have:i=out.length:=by omega
 subst this;rw[List.getElem?_append_right (Nat.le_refl _)] at hq;simp at hq;rw[←hq,Wm.Cx,Nms.Jv]
theorem Idx.old {κ:Nms} {out:List Wm} {x q:Wm} {i:Nat} (h:Idx κ out) (hq:out[i]?=some q) (hk:q.key=x.key):Idx κ (out.set i x.bare):=by
 have hi:=(List.getElem?_eq_some_iff.1 hq).1
 have hke:∀(j:Nat) (y:Wm),(out.set i x.bare)[j]?=some y→∃z:Wm,out[j]?=some z∧z.key=y.key:=fun j y hy=>by
  by_cases e:i=j
  · subst e
    rw[List.getElem?_set_self hi] at hy;cases hy;exact⟨q,hq,by rw[hk,Wm.Cx]⟩
  rw[List.getElem?_set_ne e] at hy;exact⟨y,hy,rfl⟩
 refine⟨fun k=>?_,fun j y hy=>?_⟩
 · rw[h.mem]
   constructor
   · rintro⟨y,hy,e⟩
     obtain⟨j,hj⟩:=List.getElem?_of_mem hy;by_cases e2:i=j
     · subst e2
       rw[hq] at hj;cases hj;exact⟨x.bare,List.mem_of_getElem? (List.getElem?_set_self hi),by rw[Wm.Cx, ←hk,e]⟩
     exact⟨y,List.mem_of_getElem? (by rw[List.getElem?_set_ne e2];exact hj),e⟩
   rintro⟨y,hy,e⟩;obtain⟨j,hj⟩:=List.getElem?_of_mem hy;obtain⟨z,hz,e2⟩:=hke j y hj;exact⟨z,List.mem_of_getElem? hz,e2.trans e⟩
 obtain⟨z,hz,e⟩:=hke j y hy;rw[←e];exact h.at_ j z hz
theorem Idx.nil:Idx [] []:=⟨fun k=>⟨fun h=>(by cases h),fun ⟨q,hq,_⟩=>(by cases hq)⟩,fun i q hq=>(by simp at hq)⟩
def Hv:Wm:=⟨List.replicate 32 0,false,.slice none 0 0,[]⟩
theorem Ov:(Tryz.prog.info? 203).bind (·.zero)=some (.agg Hv.cells):=by kernel_rfl
theorem Jn:∃i z,Tryz.prog.info? 203=some i∧i.zero=some z∧i.size=34∧i.bytes=64∧z.cells.size=34:=by
 obtain⟨i,h1,h2,h3,h4⟩:=info_parts (P:=Tryz.prog) (e:=203) (z:=.agg Hv.cells) (size:=34) (bytes:=64) (by kernel_rfl);exact⟨i,_,h1,h2,h3,h4,rfl⟩
theorem Ol {x:Wm} (h:x.key.length=32) (hg:x.gone=true):x.cells.setIfInBounds 33 (.slice none 0 0)=x.bare.cells:=by
 unfold Wm.bare;rw[if_pos hg];apply Array.ext';rw[Array.toList_setIfInBounds,Wm.list,Wm.list];rw[List.set_append_right _ _ (by simp[h])];simp[h,hg]
theorem S7 {w0 w:World} {base:Nat} {v:Value} {out:List Wm} (h:Cf 203 34 Wm.cells w base v out) (hb:w0.heap.size≤base) (hg:∀x∈out,x.Good w0) (a:Adds w0 w) (hn:out.length≤100000) :
 Calls Tryz.prog 258 #[v,.func (.func 259) #[] #[]] w fun e w'=>e=.returned (.tuple #[])∧Adds w0 w' ∧
  ∃l' ao cap,v=.slice ao l'.length cap∧l'.length=out.length∧(l'.length≤cap∨l' = [])∧l'.Perm out∧Dm (l'.map Wm.ent)∧CY w' ao l':=by
 by_cases hl:out = []
 · subst hl
   obtain⟨ao,cap,rfl⟩:=h.form;exact(AnyF.slices_SortFunc_none SB ao cap (.func (.func 259) #[] #[]) w).mono fun e w2 ⟨he,hw⟩=>⟨he,by rw[hw];exact a,[],ao,cap,rfl,rfl,.inr rfl,.refl _,List.Pairwise.nil,CY.nil _ _⟩
 obtain⟨g,cap,cur,rfl,hbg,hcap,hrow,hsz,hx,_⟩:=h.open (fun x hx=>Wm.size (hg x hx).key) (List.length_pos_iff.2 hl)
 obtain⟨d,hd⟩:∃d:List WmK,d.map WmK.p=out:=by
  have:∀l:List Wm,(∀x∈l,x.key.length=32∧x.vv.oneCell'=true)→∃d:List WmK,d.map WmK.p=l:=by
   intro l
   induction l with
   | nil=>exact fun _=>⟨[],rfl⟩
   | cons x l ih =>
    intro h;obtain⟨d,hd⟩:=ih (fun y hy=>h y (by simp[hy]));have hx:=h x (by simp);exact⟨⟨x,hx.1,hx.2⟩::d,by simp[hd]⟩
  exact this out fun x hx=>⟨(hg x hx).key,by obtain⟨ao,cap,e,_⟩:=(hg x hx).val.form;rw[e];rfl⟩
 have hdl:d.length=out.length:=by rw[←hd,List.length_map]
 have hH:HoldsK Ep 34 w g 0 d.toArray:=QJ hrow fun i x hi=>by
  have hi':d[i]?=some x:=by simpa using hi
  have hil:=(List.getElem?_eq_some_iff.1 hi').1;exact⟨by omega,hx i x.p (by rw[←hd,List.getElem?_map,hi'];rfl)⟩
 have hs:=TY (cap:=cap) hH (Ao hrow) (by simp;omega);rw[List.size_toArray,hdl] at hs;refine hs.mono fun e w2 ⟨he,d',h1,h2,h3,h4,h5⟩=>?_
 have hw2:Adds w0 w2:=a.trans h5 (fun k hk=>.inr (by omega));have hp:(d'.toList.map WmK.p).Perm out:=by rw[←hd];exact h2.map _
 have hlen:(d'.toList.map WmK.p).length=out.length:=hp.length_eq;refine⟨he,hw2,d'.toList.map WmK.p,some ⟨g,0,none⟩,cap,by rw[hlen],hlen,.inl (by rw[hlen];exact hcap),hp,?_,fun x hx=>(hg x (hp.mem_iff.1 hx)).An hw2 (fun _=>fEq),fun i x hi=>⟨g,0,rfl,?_⟩⟩
 · unfold Dm
   rw[List.map_map,List.pairwise_map];exact h3
 rw[List.getElem?_map] at hi;cases hy:d'[i]? with
 | none=>rw[Array.getElem?_toList,hy] at hi;cases hi
 | some y =>
  rw[Array.getElem?_toList,hy] at hi;cases hi;exact P9 h4 hy
structure JH (w wr:World) (b:Nat) (v:Value) (l out:List Wm) (k:Nat):Prop where
 lasts:Dg (l.take k) out
 row:Cf 203 34 Wm.cells wr w.heap.size v out
 idx:∃κ,Dd wr b k κ∧Idx κ out
 bge:w.heap.size≤b∧v.ownBlock≠some b
 world:Adds w wr
theorem JH.adds {w wr w':World} {b:Nat} {v:Value} {l out:List Wm} {k:Nat} (h:JH w wr b v l out k) (a:Adds wr w'):JH w w' b v l out k:=by
 obtain⟨κ,h1,h2⟩:=h.idx;exact⟨h.lasts,h.row.adds a,⟨κ,h1.An a id,h2⟩,h.bge,h.world.trans a (fun _=>fEq)⟩
end Go.Proofs.YtooijgcildbnlaaGreat.BE
namespace Go.Proofs.YtooijgcildbnlaaGreat.BE
open Go.RowKit Go.Proofs.YtooijgcildbnlaaGreat.ShaW Go.Proofs.YtooijgcildbnlaaGreat.Path Go.Proofs.YtooijgcildbnlaaGreat.Store
def PS (L:List Wm) (x:Wm):Prop:=∃L1 y L2,L=L1++y::L2∧x=y.bare∧∀z∈L2,z.key≠y.key
theorem JV {L:List Wm} {x0 x:Wm}:PS (L ++ [x0]) x↔x=x0.bare∨(PS L x∧x.key≠x0.key):=by
 constructor
 · rintro⟨L1,y,L2,e,hx,hz⟩
   rcases List.eq_nil_or_concat L2 with rfl|⟨L3,z,rfl⟩
   · have:=List.append_inj' (s₂:=L1) (t₂ := [y]) e rfl
     obtain⟨_,e2⟩:=this;injection e2 with e2;subst e2;exact .inl hx
   have e':L ++ [x0]=(L1++y::L3) ++ [z]:=by rw[e];simp
   obtain⟨e1,e2⟩:=List.append_inj' e' rfl;injection e2 with e2;subst e2;refine .inr ⟨⟨L1,y,L3,e1,hx,fun w hw=>hz w (by simp[hw])⟩,?_⟩;rw[hx,Wm.Cx];exact(hz x0 (by simp)).symm
 rintro(rfl|⟨⟨L1,y,L2,rfl,rfl,hz⟩,hk⟩)
 · exact⟨L,x0,[],rfl,rfl,fun z hz=>by cases hz⟩
 refine⟨L1,y,L2 ++ [x0],by simp,rfl,fun z hm=>?_⟩;rcases List.mem_append.1 hm with hm|hm
 · exact hz z hm
 rw[List.mem_singleton.1 hm];rw[Wm.Cx] at hk;exact hk.symm
theorem Dg.spec {L out:List Wm} (h:Dg L out):∀x,x∈out↔PS L x:=by
 induction h with
 | nil =>
  intro x;constructor
  · intro h;cases h
  rintro⟨L1,y,L2,e,_⟩;simp at e
 | @new L out x0 h hp ih =>
  intro x;rw[JV, ←ih,List.mem_append,List.mem_singleton];constructor
  · rintro(h|h)
    · exact .inr ⟨h,hp x h⟩
    exact .inl h
  rintro(h|h)
  · exact .inr h
  exact .inl h.1
 | @old L out x0 q i h hq hk ih =>
  intro x;have hi:=(List.getElem?_eq_some_iff.1 hq).1;have hnd:=h.nodup;rw[JV, ←ih]
  have uniq:∀j y,out[j]?=some y→y.key=x0.key→j=i:=fun j y hy e=>by
   have hj:=(List.getElem?_eq_some_iff.1 hy).1;have h1:=(List.getElem?_eq_some_iff.1 hy).2;have h2:=(List.getElem?_eq_some_iff.1 hq).2;have hpw:=List.pairwise_iff_getElem.1 hnd
   have hke:(out.map (·.key))[j]'(by simpa using hj)=(out.map (·.key))[i]'(by simpa using hi):=by
    rw[List.getElem_map,List.getElem_map,h1,h2,e,hk]
   rcases Nat.lt_trichotomy j i with h3|h3|h3
   · exact absurd hke (hpw j i (by simpa using hj) (by simpa using hi) h3)
   · exact h3
   exact absurd hke.symm (hpw i j (by simpa using hi) (by simpa using hj) h3)
  constructor
  · intro hm
    obtain⟨j,hj⟩:=List.getElem?_of_mem hm;by_cases e:i=j
    · subst e
      rw[List.getElem?_set_self hi] at hj;cases hj;exact .inl rfl
    rw[List.getElem?_set_ne e] at hj;exact .inr ⟨List.mem_of_getElem? hj,fun e2=>e (uniq j x hj e2).symm⟩
  rintro(rfl|⟨hm,hk2⟩)
  · exact List.mem_of_getElem? (List.getElem?_set_self hi)
  obtain⟨j,hj⟩:=List.getElem?_of_mem hm
  have hji:i≠j:=fun e=>by
   subst e;rw[hq] at hj;cases hj;exact hk2 hk
  exact List.mem_of_getElem? (by rw[List.getElem?_set_ne hji];exact hj)
theorem D1 {l:List Wm} (h:(l.map (·.key)).Nodup):l.Nodup:=by
 induction l with
 | nil=>exact List.nodup_nil
 | cons x l ih =>
  obtain⟨h1,h2⟩:=List.nodup_cons.1 h;exact List.nodup_cons.2 ⟨fun hm=>h1 (List.mem_map_of_mem hm),ih h2⟩
theorem Dg.RO {A l out:List Wm} (h:Dg (A++l) out) (hA:(A.map (·.key)).Nodup) (hl:(l.map (·.key)).Nodup) (hg:∀a∈A,a.gone=false) :
 out.Perm (l.map Wm.bare++A.filter fun a => !decide (a.key∈l.map (·.key))):=by
 have hbk:(l.map Wm.bare).map (·.key)=l.map (·.key):=by rw[List.map_map];exact List.map_congr_left fun x _=>Wm.Cx x
 have nd2:(l.map Wm.bare++A.filter fun a => !decide (a.key∈l.map (·.key))).Nodup:=by
  refine D1 ?_;rw[List.map_append,hbk];refine List.nodup_append.2 ⟨hl,hA.sublist (List.filter_sublist.map _),fun a ha b hb e=>?_⟩;obtain⟨y,hy,rfl⟩:=List.mem_map.1 hb;have:=(List.mem_filter.1 hy).2;rw[←e] at this;simp only[Bool.not_eq_true',decide_eq_false_iff_not] at this;exact this ha
 refine(List.perm_ext_iff_of_nodup (D1 h.nodup) nd2).2 fun x=>?_
 rw[h.spec,List.mem_append];constructor
 · rintro⟨L1,y,L2,e,rfl,hz⟩
   have hy:y∈A++l:=by rw[e];simp
   rcases List.append_eq_append_iff.1 e with⟨cs,e1,e2⟩|⟨bs,e1,e2⟩
   · exact .inl (List.mem_map_of_mem (by rw[e2];simp))
   match bs,e1,e2 with
   | [],e1,e2=>exact .inl (List.mem_map_of_mem (by rw[show l=y::L2 from e2.symm];simp))
   | b::bs,e1,e2 =>
    injection e2 with e3 e4;subst e3;have hyA:y∈A:=by rw[e1];simp
    have hb:y.bare=y:=by unfold Wm.bare;rw[if_neg (by rw[hg y hyA];simp)]
    rw[hb];refine .inr (List.mem_filter.2 ⟨hyA,?_⟩);simp only[Bool.not_eq_true',decide_eq_false_iff_not];intro hm;obtain⟨z,hz1,hz2⟩:=List.mem_map.1 hm;exact hz z (by rw[e4];simp[hz1]) hz2
 rintro(hm|hm)
 · obtain⟨y,hy,rfl⟩:=List.mem_map.1 hm
   obtain⟨l1,l2,e⟩:=List.append_of_mem hy;refine⟨A++l1,y,l2,by rw[e];simp,rfl,fun z hz e2=>?_⟩;rw[e,List.map_append,List.map_cons,List.nodup_append] at hl;exact(List.nodup_cons.1 hl.2.1).1 (by rw[←e2];exact List.mem_map_of_mem hz)
 obtain⟨hxA,hx⟩:=List.mem_filter.1 hm;simp only[Bool.not_eq_true',decide_eq_false_iff_not] at hx;obtain⟨a1,a2,e⟩:=List.append_of_mem hxA;refine⟨a1,x,a2++l,by rw[e];simp,?_,fun z hz e2=>?_⟩
 · unfold Wm.bare;rw[if_neg (by rw[hg x hxA];simp)]
 rcases List.mem_append.1 hz with hz|hz
 · rw[e,List.map_append,List.map_cons,List.nodup_append] at hA
   exact(List.nodup_cons.1 hA.2.1).1 (by rw[←e2];exact List.mem_map_of_mem hz)
 exact hx (by rw[←e2];exact List.mem_map_of_mem hz)
theorem L8:∀l:List Wm,((l.map Wm.bare).filter fun x => !x.gone).map Wm.ent=Gg (l.map Wm.wp)
 | []=>rfl
 | x::l=>by
  have ih:=L8 l;unfold Gg at ih ⊢;cases hg:x.gone with
  | true =>
   have hb:x.bare.gone=true:=by unfold Wm.bare;rw[if_pos hg]
   simp[hb,Wm.wp,hg];simpa using ih
  | false =>
   have hb:x.bare=x:=by unfold Wm.bare;rw[if_neg (by rw[hg];simp)]
   simp[hb,Wm.wp,hg,Wm.ent];simpa[Wm.ent] using ih
theorem Px (l:List Wm):He (l.map Wm.wp)=l.map (·.key):=by simp[He,Wm.wp]
theorem Dg.ents {M:AQ} {A l out:List Wm} (h:Dg (A++l) out) (hM:A.map Wm.ent=M) (hA:(keysOf M).Nodup) (hl:(l.map (·.key)).Nodup) (hg:∀a∈A,a.gone=false) :
 ((out.filter fun x => !x.gone).map Wm.ent).Perm (CV M (l.map Wm.wp)):=by
 have hA':(A.map (·.key)).Nodup:=by
  have:A.map (·.key)=keysOf M:=by rw[←hM];simp[keysOf,Wm.ent]
  rw[this];exact hA
 refine((h.RO hA' hl hg).filter _ |>.map _).trans ?_;rw[List.filter_append,List.map_append,L8];unfold CV;rw[Px, ←hM];refine List.Perm.append_left _ ?_;rw[List.filter_map,List.filter_filter];refine List.Perm.of_eq ?_
 congr 1
 refine List.filter_congr fun a ha=>?_
 rw[hg a ha];by_cases hm:a.key∈l.map (·.key)
 · have:decide (a.ent.1∈l.map (·.key))=true:=decide_eq_true hm
   simp only[Function.comp_apply,this,decide_eq_true hm];rfl
 have:decide (a.ent.1∈l.map (·.key))=false:=decide_eq_false hm;simp only[Function.comp_apply,this,decide_eq_false hm];rfl
end Go.Proofs.YtooijgcildbnlaaGreat.BE
