/- The law TopStore returns true, whatever comes in. -/
import Derived.Test.YtngbdbpofifimaaGreatQk40
import Derived.Test.YtngbdbpofifimaaGreatRows
set_option maxHeartbeats 3200000
set_option maxRecDepth 100000
set_option linter.unusedVariables false
namespace Go.Proofs.YtngbdbpofifimaaGreat.topStore
open Go.ChangeShapes Go.WideShapes Go.ChangeAt Go.RowKit Go.Deep Go.Proofs.YtngbdbpofifimaaGreat.Store
theorem main (W:World) (a0:Int) (h0:(Lit.int .i64 a0).wf=true) (v1:Value) (h1:Law15.Lo W v1):Calls Tryz.prog 3 #[.int .i64 a0,v1] W fun e w'=>e=.returned (.bool true)∧Adds W w':=by
 obtain⟨ao,l,cap,rfl,hl,hla,hll⟩:=h1;exact Law15.RX a0 cap hl hla hll
theorem own:ownKnob Tryz.prog.godebug=none:=by kernel_rfl
theorem laidOut:laidOutB Tryz.prog=true:=by kernel_rfl
theorem lifted (os:Os) (started:os.Started) (H:Type) (enc:TypeId×Value→H) :
 ReturnsInHanded {} Tryz.checked os 3 .any (Rows.topStoreSpec.pre6 enc Tryz.prog Tryz.f3 Rows.topStoreRow.domain false) (Rows.topStoreSpec.post enc Tryz.prog Tryz.f3 false true false false):=by
 refine returnsInHanded_of_change_sized (C:=Tryz.checked) own started (by kernel_rfl) Tryz.func3
  (ChangeSpec.witness6 (enc:=enc) (C:=Tryz.checked) false ⟨#[], #[.int .i64 0,.slice none 0 0],[]⟩ 8 (by kernel_rfl) (by kernel_rfl) (by kernel_rfl) (by kernel_rfl)) ?_
 intro W base args ds gs before hval0 hW hcnd hwt _;have hval:∀(j:Nat) t v,Tryz.f3.params[j]?=some t→args[j]?=some v→Value.okWide Tryz.prog W .any base t v:=hval0;have hW':=hW;obtain⟨p,q,hA0,hV,rfl,hfz,hnd⟩:=hW;have hA:DataW.TrodAll enc Tryz.prog W 0 (fun _=>true) true Tryz.f3.params.toList args.toList ds p:=hA0;rw[Tryz.params3] at hA hval hwt;obtain⟨v0,vs0,d0,ds0,p0,q0,hargs,rfl,rfl,h0,r0⟩:=trodAll_cons hA;obtain⟨v1,vs1,d1,ds1,p1,q1,rfl,rfl,rfl,h1,r1⟩:=trodAll_cons r0;obtain⟨rfl,rfl,rfl⟩:=trodAll_nil r1;obtain rfl:args=#[v0,v1]:=by cases args;simp_all
 obtain⟨rfl,rfl⟩:=trodVars_none hV;obtain⟨a0,rfl,rfl,rfl,w0⟩:=open_int Tryz.underlying3 (hval 0 3 v0 rfl rfl) h0;have k1:=h1;have lt1:∀x∈p1,x.block<W.heap.size:=by obtain⟨m,hm⟩:=k1;exact DataW.trod_lt m _ _ _ hm
 clear hA0 hval0;refine(main W a0 w0 v1 (Law15.PJ (hval 1 22 v1 rfl rfl) h1 (fun k hk=>of_decide_eq_true (List.all_eq_true.1 hwt k (DataW.weights_mem_each (j:=1) rfl rfl k hk))))).mono fun e W' ⟨he,ha⟩=>?_
 have bel:Below W.heap.size W W':=ha.below (Nat.le_refl _) (fun _=>fEq);subst he;exact⟨_,rfl,_,_,_,[],_,[],hW',trodAll_mk1 (shut_bool Tryz.underlying4 _),(trodAll_cons_mk (shut_int Tryz.underlying3 w0) (trodAll_cons_mk (Below.trod laidOut (by kernel_rfl) (of_decide_eq_true (by kernel_rfl)) k1 bel lt1) trodAll_mk0)),rfl,bel.frame _,fun h=>by cases h⟩
theorem RF:(Rows.topStoreRow.inPlace == Tryz.prog.inPlace 3)=true:=by kernel_rfl
theorem Me:(Rows.topStoreRow.unfollowed == Tryz.prog.unfollowed 3)=true:=by kernel_rfl
theorem PT:(Rows.topStoreRow.recurses == Tryz.prog.recurses 3)=true:=by kernel_rfl
theorem VH:(Rows.topStoreRow.named == Tryz.prog.varsNamed 3)=true:=by kernel_rfl
theorem UN:mapsRowed Tryz.prog=true:=by kernel_rfl
theorem closed:joinedFacts Tryz.prog 3 Tryz.f3 Rows.topStoreSpec Rows.topStoreRow=true:=by
 unfold joinedFacts;rw[RF,Me,PT,VH,UN,laidOut]
 kernel_rfl
theorem UZ:Rows.topStoreRow.holds Tryz.pinned (OpenSpec.ofChange Rows.topStoreSpec) :=
 OpenClaim.holds_of_wide 3 Tryz.f3 rfl rfl rfl rfl rfl rfl rfl ⟨rfl,rfl,rfl,rfl,rfl⟩ rfl rfl rfl rfl rfl (by kernel_rfl) Tryz.func3 closed
  (of_decide_eq_true (by kernel_rfl)) (by unfold Func.isWrapper;first|(rw[if_pos (by decide +kernel)];kernel_rfl)|(rw[if_neg (by decide +kernel)];exact⟨rfl,rfl⟩))
  (fun os started H enc _=>lifted os started H enc)
theorem proved:Rows.TopStoreSaid:=UZ
#print axioms proved
end Go.Proofs.YtngbdbpofifimaaGreat.topStore
