/- Laws of the layers below. -/
import Derived.Test.YtooijgcildbnlaaGreatQg6
import Derived.Maps.OwnOps
import Derived.Maps.OwnSet
import Derived.DeepKeys4
import Derived.WalkArith
set_option maxHeartbeats 3200000
set_option maxRecDepth 100000
set_option linter.unusedVariables false
namespace Go.Proofs.YtooijgcildbnlaaGreat.Store
open Go.RowKit Go.Proofs.YtooijgcildbnlaaGreat.Path Go.Maps
theorem Sm:laidOutB Tryz.prog=true:=by kernel_rfl
theorem VM:Keyed Tryz.prog 24:=Keyed.of_law (deep_law_laid Sm (m:=2) (by omega) (of_decide_eq_true (by kernel_rfl)) (by kernel_rfl) (by kernel_rfl))
theorem UX:Tryz.prog.keyType 24=true:=by kernel_rfl
theorem TP:Tryz.prog.cellsOf 24=32:=by kernel_rfl
theorem VC:Tryz.prog.cellsOf 5=1:=by kernel_rfl
theorem QR {α β:Type} {f:α→Option β} {g:α→β}:∀(l:List α),(∀x∈l,f x=some (g x))→l.mapM f=some (l.map g)
 | [],_=>rfl
 | x::l,h=>by
  rw[List.mapM_cons,h x (by simp),QR l (fun y hy=>h y (by simp[hy]))];rfl
theorem KE (k:List UInt8) (hk:k.length=32):∃l,keyOf Tryz.prog 24 (.agg (AJ k))=some l:=by
 have hsz:(AJ k).size=32:=by simp[AJ,hk]
 have hf:Value.formed Tryz.prog 24 (.agg (AJ k))=true:=by
  unfold Value.formed;simp only[Tryz.underlying24,TP,hsz];rfl
 have hl:∀n,Tryz.prog.keyLits (n+2) 24 (AJ k).toList=some (((List.range 32).map fun i => [Lit.int .u8 ((k.getD i 0).toNat:Int)]).flatten):=fun n=>by
  unfold Program.keyLits;simp only[Tryz.underlying24];rw[if_pos (by rw[TP,Array.length_toList,hsz]),QR (g:=fun i => [Lit.int .u8 ((k.getD i 0).toNat:Int)])]
  · rfl
  intro i hi;have hi:i<32:=List.mem_range.1 hi
  have hg:((AJ k).toList.drop (i*Tryz.prog.cellsOf 5)).take (Tryz.prog.cellsOf 5) = [bv (k.getD i 0)]:=by
   rw[VC,Nat.mul_one];have h1:i<(AJ k).toList.length:=by rw[Array.length_toList,hsz];exact hi
   rw[List.drop_eq_getElem_cons h1];have:=DN (l:=k) (i:=i) (by omega);rw[Array.getElem?_eq_getElem (by rw[hsz];exact hi)] at this;injection this with this;simp[this]
  rw[hg];unfold Program.keyLits;simp only[Tryz.underlying5,bv];have:=(k.getD i 0).toNat_lt;rw[if_pos ⟨trivial,WalkArith.wf_u8 ⟨by omega,by omega⟩⟩]
 unfold keyOf;simp only[Tryz.underlying24,UX,hf];obtain⟨m,hm⟩:∃m,Tryz.prog.types.size+1=m+2:=⟨Tryz.prog.types.size-1,by have:1≤Tryz.prog.types.size:=of_decide_eq_true (by kernel_rfl);omega⟩
 rw[hm];have e:=hl m
 show ∃l,Option.map _ (Tryz.prog.keyLits (m+2) 24 (AJ k).toList)=some l
 rw[e];exact⟨_,rfl⟩
theorem Hw {H:Type} {P:Program} {e:TypeId} (he:P.underlying e=some .bool) {v:Value} {z:DataW H×List MemPlace} (h:plainElem P e v=some z):∃x,v=.bool x∧z=(.lit (.bool x),[]):=by
 unfold plainElem at h;rw[he] at h;cases v<;>simp at h;exact⟨_,rfl,h.symm⟩
noncomputable abbrev Wc:Value→Option (DataW Value×List MemPlace):=plainElem Tryz.prog 4
noncomputable def kl (k:List UInt8):Lit:=if h:k.length=32 then Classical.choose (KE k h) else .bool false
theorem IS {k:List UInt8} (hk:k.length=32):keyOf Tryz.prog 24 (.agg (AJ k))=some (kl k):=by
 unfold kl;rw[dif_pos hk];exact Classical.choose_spec (KE k hk)
theorem Tt {a b:List UInt8} (h:AJ a=AJ b):a=b:=by
 have h2:a.map bv=b.map bv:=by have:=congrArg Array.toList h;simpa[AJ] using this
 refine List.map_inj_right (fun x y e=>?_) |>.1 h2;simp only[bv,Value.int.injEq,true_and] at e;exact UInt8.toNat_inj.1 (by omega)
theorem XI {a b:List UInt8} (ha:a.length=32) (hb:b.length=32) (h:kl a=kl b):a=b:=by
 have:=VM.inj (IS ha) (by rw[h];exact IS hb);injection this with this;exact Tt this
theorem Wn {k:List UInt8} (hk:k.length=32):WideAt.IsKeyLit (kl k):=VM.key (IS hk)
theorem QF (w:World):(zeroValue 4).run Tryz.prog w=.ok (.bool false) w:=by kernel_rfl
def Gj (w:World) (b n:Nat) (S:List (List UInt8)):Prop:=∃D,w.ownsMap Tryz.prog 24 Wc b n D∧∀k:List UInt8,k.length=32→D.atKey (kl k) (.lit (.bool false))=.lit (.bool (decide (k∈S)))
theorem Gj.made (w:World):Gj (w.alloc (.map #[] 0)) w.heap.size 0 []:=⟨_,World.ownsMap_made w _ _ _,fun k _=>by simp[DataW.atKey]⟩
theorem Gj.Am {F:Nat→Prop} {w w':World} {b n:Nat} {S:List (List UInt8)} (h:Gj w b n S) (hc:Ch F w w') (hb:¬F b):Gj w' b n S:=by
 obtain⟨D,⟨es,clock,hg,r⟩,h2⟩:=h;exact⟨D,⟨es,clock,hc.row hg hb,r⟩,h2⟩
theorem Gj.look {w:World} {b n:Nat} {S:List (List UInt8)} (h:Gj w b n S) {k:List UInt8} (hk:k.length=32) :
 (Instr.lookup 359 (.map (some b)) (.agg (AJ k)) false).run Tryz.prog w=.ok (.bool (decide (k∈S))) w:=by
 obtain⟨D,h1,h2⟩:=h;obtain⟨v,ps,hr,hv⟩:=h1.lookup VM Tryz.underlying359 (QF w) (plainElem_bool Tryz.underlying4 false) (IS hk);rw[h2 k hk] at hv;rw[hr];obtain⟨x,rfl,hx⟩:=Hw Tryz.underlying4 hv;simp only[Prod.mk.injEq,DataW.lit.injEq,Lit.bool.injEq] at hx;rw[hx.1]
theorem Ro {w:World} {b n:Nat} {S:List (List UInt8)} (h:Gj w b n S) (hn:n<maxLen) {ops:Array Oper} {rest:List Oper} {o:Oper} {a:Act} {Q:Exit→Act→World→Prop}
 (hg:o.guard=none) (m x v:Operand) (hop:o.op=Op.mapUpdate 359 m x v) (hm:a.eval m=.map (some b)) (k:List UInt8) (hk:k.length=32) (hx:a.eval x=.agg (AJ k)) (hv:a.eval v=.bool true)
 (hK:∀w',Gj w' b (n+1) (k::S)→Ch (fun k=>k=b) w w'→wpList Tryz.prog ops Q rest (a.put o.dst undef) w'):wpList Tryz.prog ops Q (o::rest) a w:=by
 obtain⟨D,h1,h2⟩:=h;refine wpList_mapUpdate_own w hg m x v _ hop 24 4 VM Tryz.underlying359 Wc b n D hm h1 hn _ _ (kl k) hx hv (IS hk) (.lit (.bool true)) [] (plainElem_bool Tryz.underlying4 true) ?_;intro w' h3 h4;refine hK w' ⟨_,h3,fun z hz=>?_⟩ ((Ch.refl _ w).grown h4 (fun k hk=>.inl (by cases hk;rfl)));by_cases e:z=k
 · subst e
   rw[Maps.atKey_put_same h1.isMap (Wn hk)];simp
 rw[Maps.atKey_put_other (fun he=>e (XI hz hk he)),h2 z hz];simp[e]
end Go.Proofs.YtooijgcildbnlaaGreat.Store
