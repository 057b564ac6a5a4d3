/- Laws of the layers below. -/
import Derived.Test.YtooijgcildbnlaaGreatQj38
import Derived.SizedLaws
set_option maxHeartbeats 3200000
set_option maxRecDepth 100000
set_option linter.unusedVariables false
namespace Go.Proofs.YtooijgcildbnlaaGreat.Law15
open Go.RowKit Go.Proofs.YtooijgcildbnlaaGreat.ShaW Go.Proofs.YtooijgcildbnlaaGreat.Path Go.Proofs.YtooijgcildbnlaaGreat.Store Go.Proofs.YtooijgcildbnlaaGreat.BE Go.Deep Go.ChangeShapes Go.WideShapes Go.ChangeAt
theorem Ga {H:Type} {P:Program} {e:TypeId}:∀ {l:List (DataW H)} {d:DataW H},d∈l→∀n∈d.weights P e,n∈DataW.weightsAll P e l
 | [],d,h=>by cases h
 | d0::l,d,h=>fun n hn=>by
  simp only[DataW.weightsAll,List.mem_append];rcases List.mem_cons.1 h with rfl|h
  · exact .inl hn
  exact .inr (Ga h n hn)
section
variable {H : Type} {enc : TypeId×Value→H} {W : World} {base : Nat}
theorem Lb {α:Type} [Inhabited α] {m:Nat} (hm0:0<m) {good:α→DataW H→Prop} {cells:α→Array Value} {st T:TypeId} (hst:Tryz.prog.underlying st=some (.slice T)) (hct:Tryz.prog.cellsOf T=m)
 (read:∀ {n:Nat} {cs:List Value} {y:DataW H×List MemPlace},DataW.trod enc Tryz.prog W base (fun _=>true) true n T cs=some y→∃x:α,good x y.1∧cs=(cells x).toList)
 {n:Nat} {cs:List Value} {y:DataW H×List MemPlace} (h:DataW.trod enc Tryz.prog W base (fun _=>true) true n st cs=some y) :
 ∃(ao:Option Addr) (l:List α) (cap:Nat),cs = [.slice ao l.length cap]∧(∀x∈l,∃d,good x d∧∀k∈d.weights Tryz.prog T,k∈y.1.weights Tryz.prog st)∧Dl m cells W ao l∧(l = []∨∃k∈y.1.weights Tryz.prog st,l.length*Tryz.prog.bytesOf T≤k):=by
 rcases open_slice hst h with⟨h0,_⟩|⟨a,len,cap,mm,n,D,Pl,hcs,hb,hl,hc,hmm,hx,hi⟩
 · exact⟨none,[],0,h0,fun x hx=>(by cases hx),fun i x hi=>(by simp at hi),.inl rfl⟩
 have hw:y.1.weights Tryz.prog st=(len+(mm-len))*Tryz.prog.bytesOf T::(DataW.weightsAll Tryz.prog T ((List.range len).map D)++DataW.weightsAll Tryz.prog T ((List.range (mm-len)).map fun j=>D (len+j))):=by
  rw[hx];simp[DataW.weights,hst]
 have one:∀i,i<len→∃x:α,good x (D i)∧∃g off,a=⟨g,off,none⟩∧CO W g (off+i*m) (cells x):=fun i hil=>by
  obtain⟨cs',h1,h2⟩:=hi i (by rw[hmm];simp only[if_true];exact Nat.lt_of_lt_of_le hil hl);rw[hct] at h1;obtain⟨x,hg,rfl⟩:=read h2;obtain⟨_,hlen,h3⟩:=World.cells?_some h1;obtain⟨g,off,spot⟩:=a;cases spot with
  | none =>
   refine⟨x,hg,g,off,rfl,?_⟩;have:=CO.Is (w:=W) (g:=g) (o:=off+i*m) (m:=m) (cs:=(cells x).toList) hm0 hlen (fun j hj=>by have:=h3 j hj;simpa only[add_plain] using this);exact this
  | some s =>
   exfalso;obtain⟨cs',h1,h2⟩:=hi 0 (by rw[hmm];simp only[if_true];exact Nat.lt_of_lt_of_le (Nat.lt_of_le_of_lt (Nat.zero_le _) hil) hl);rw[hct] at h1;obtain⟨x,hg,rfl⟩:=read h2;obtain⟨_,hlen,h3⟩:=World.cells?_some h1;have k0:=h3 0 hm0;rw[JA _ _ (by simp[Addr.add])] at k0;have hp:0<(cells x).toList.length:=by rw[hlen];exact hm0
   rw[List.getElem?_eq_getElem hp] at k0;cases k0
 obtain⟨B,hB⟩:∃B:Nat→α,∀i,i<len→good (B i) (D i)∧∃g off,a=⟨g,off,none⟩∧CO W g (off+i*m) (cells (B i)):=by
  refine⟨fun i=>if hi:i<len then Classical.choose (one i hi) else default,fun i hi=>?_⟩;simp only[dif_pos hi];exact Classical.choose_spec (one i hi)
 refine⟨some a,(List.range len).map B,cap,by rw[hcs];simp,fun x hx=>?_,fun i x hi=>?_,.inr ⟨_,by rw[hw];exact List.mem_cons_self ..,?_⟩⟩
 · obtain⟨j,hj,rfl⟩:=List.mem_map.1 hx
   refine⟨D j,(hB j (List.mem_range.1 hj)).1,fun k hk=>?_⟩;rw[hw];exact List.mem_cons_of_mem _ (List.mem_append.2 (.inl (Ga (List.mem_map_of_mem hj) k hk)))
 · have hil:i<len:=by
    have:=(List.getElem?_eq_some_iff.1 hi).1;simpa using this
   have:x=B i:=by simp[hil] at hi;exact hi.symm
   subst this;obtain⟨_,g,off,h1,h2⟩:=hB i hil;exact⟨g,off,by rw[h1],h2⟩
 rw[List.length_map,List.length_range];exact Nat.mul_le_mul_right _ (Nat.le_add_right _ _)
theorem Qj:Tryz.prog.bytesOf 201=56:=by kernel_rfl
def Cu.Fits (x:Cu) (d:DataW H):Prop:=(∀k∈d.weights Tryz.prog 80,k≤reachBytes)→x.l.length*56≤140737488351232
theorem M5 {n:Nat} {cs:List Value} {y:DataW H×List MemPlace} (h:DataW.trod enc Tryz.prog W base (fun _=>true) true n 80 cs=some y):∃x:Cu,(x.Good W∧x.Fits y.1)∧cs=x.cells.toList:=by
 obtain⟨x,hg,hx⟩:=Oy h;refine⟨x,⟨hg,fun hw=>?_⟩,hx⟩;obtain⟨xs,m,rfl,rfl,hl,hxl,hf⟩:=DataW.trod_struct Tryz.underlying80 h;rw[Gi] at hl;have hx6:xs.length=6:=hxl;have f4:=hf 4 ⟨ "L",78,4,false, "", "",72⟩ rfl;rw[List.getElem?_eq_getElem (l:=xs) (i:=4) (by omega)] at f4;simp only[Jy] at f4;obtain⟨ao,l,cap,e4,_,_,hk⟩:=Lb (good:=fun x _=>x.Good W) (m:=3) (by decide) (cells:=By.cells) Tryz.underlying78 JB (fun h=>NM h) f4
 have he:l.length=x.l.length:=by
  rw[hx] at e4;simp[Cu.cells] at e4;exact e4.2.1.symm
 rw[←he];rcases hk with rfl|⟨k,hk,hle⟩
 · exact Nat.zero_le _
 rw[Qj] at hle
 have h1:=hw k (by
  simp only[DataW.weights,Tryz.underlying80];exact DataW.weights_mem_each (j:=4) (t:=78) (d:=(xs[4]'(by omega)).1) rfl (by rw[List.getElem?_map,List.getElem?_eq_getElem (by omega)];rfl) k hk)
 have h2:reachBytes=140737488351232:=by decide
 omega
theorem OM:Tryz.prog.bytesOf 80=104:=by kernel_rfl
def Lw (W:World) (v:Value):Prop:=∃ao l cap,v=.slice ao (List.length l) cap∧GX W ao l∧(∀a∈l,a.l.length*56≤140737488351232)∧l.length≤140737488351232
theorem PO {v:Value} {d:DataW H} {p:List MemPlace} (hv:Value.okWide Tryz.prog W .any base 72 v)
 (h:DataW.Trod enc Tryz.prog W 0 (fun _=>true) true 72 v d p) (hw:∀k∈d.weights Tryz.prog 72,k≤reachBytes):Lw W v:=by
 obtain⟨m,hm⟩:=h;obtain⟨ao,l,cap,e,h1,h2,h3⟩:=Lb (good:=fun x d=>x.Good W∧x.Fits d) (m:=6) (by decide) (cells:=Cu.cells) Tryz.underlying72 Gi (fun h=>M5 h) hm;obtain⟨ao',len,cap',rfl⟩:=okWide_slice Tryz.underlying72 hv;simp only[Value.cells,List.cons.injEq,Value.slice.injEq,and_true] at e;obtain⟨rfl,rfl,rfl⟩:=e;refine⟨_,l,_,rfl,⟨fun x hx=>?_,h2⟩,fun x hx=>?_,?_⟩
 · obtain⟨d',hd,_⟩:=h1 x hx
   exact hd.1
 · obtain⟨d',hd,hk⟩:=h1 x hx
   exact hd.2 fun k hk'=>hw k (hk k hk')
 rcases h3 with rfl|⟨k,hk,hle⟩
 · exact Nat.zero_le _
 have:=hw k hk;rw[OM] at hle;have h2:reachBytes=140737488351232:=by decide
 omega
end
end Go.Proofs.YtooijgcildbnlaaGreat.Law15
