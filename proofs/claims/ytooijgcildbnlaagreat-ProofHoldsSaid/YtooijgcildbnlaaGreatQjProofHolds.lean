/- The law ProofHolds returns true, whatever comes in. -/
import Derived.Test.YtooijgcildbnlaaGreatQj41
import Derived.Test.YtooijgcildbnlaaGreatQj42
import Derived.Test.YtooijgcildbnlaaGreatRows
set_option maxHeartbeats 3200000
set_option maxRecDepth 100000
set_option linter.unusedVariables false
namespace Go.Proofs.YtooijgcildbnlaaGreat.proofHolds
open Go.ChangeShapes Go.WideShapes Go.ChangeAt Go.RowKit Go.Deep Go.Proofs.YtooijgcildbnlaaGreat.Store
theorem main (W:World) (v0:Value) (h0:Law15.Lw W v0) (v1:Value) (h1:TO W v1):Calls Tryz.prog 8 #[v0,v1] W fun e w'=>e=.returned (.bool true)∧Adds W w':=by
 obtain⟨ao,l,cap,rfl,hl,hla,hll⟩:=h0;obtain⟨key,hk,rfl⟩:=h1;exact Law15.Np cap hl hla hll hk
theorem own:ownKnob Tryz.prog.godebug=none:=by kernel_rfl
theorem laidOut:laidOutB Tryz.prog=true:=by kernel_rfl
theorem lifted (os:Os) (started:os.Started) (H:Type) (enc:TypeId×Value→H) :
 ReturnsInHanded {} Tryz.checked os 8 .any (Rows.proofHoldsSpec.pre6 enc Tryz.prog Tryz.f8 Rows.proofHoldsRow.domain false) (Rows.proofHoldsSpec.post enc Tryz.prog Tryz.f8 false true false false):=by
 refine returnsInHanded_of_change_sized (C:=Tryz.checked) own started (by kernel_rfl) Tryz.func8
  (ChangeSpec.witness6 (enc:=enc) (C:=Tryz.checked) false ⟨#[], #[.slice none 0 0,.agg #[.int .u8 0,.int .u8 0,.int .u8 0,.int .u8 0,.int .u8 0,.int .u8 0,.int .u8 0,.int .u8 0,.int .u8 0,.int .u8 0,.int .u8 0,.int .u8 0,.int .u8 0,.int .u8 0,.int .u8 0,.int .u8 0,.int .u8 0,.int .u8 0,.int .u8 0,.int .u8 0,.int .u8 0,.int .u8 0,.int .u8 0,.int .u8 0,.int .u8 0,.int .u8 0,.int .u8 0,.int .u8 0,.int .u8 0,.int .u8 0,.int .u8 0,.int .u8 0]],[]⟩ 8 (by kernel_rfl) (by kernel_rfl) (by kernel_rfl) (by kernel_rfl)) ?_
 intro W base args ds gs before hval0 hW hcnd hwt _;have hval:∀(j:Nat) t v,Tryz.f8.params[j]?=some t→args[j]?=some v→Value.okWide Tryz.prog W .any base t v:=hval0;have hW':=hW;obtain⟨p,q,hA0,hV,rfl,hfz,hnd⟩:=hW;have hA:DataW.TrodAll enc Tryz.prog W 0 (fun _=>true) true Tryz.f8.params.toList args.toList ds p:=hA0;rw[Tryz.params8] at hA hval hwt;obtain⟨v0,vs0,d0,ds0,p0,q0,hargs,rfl,rfl,h0,r0⟩:=trodAll_cons hA;obtain⟨v1,vs1,d1,ds1,p1,q1,rfl,rfl,rfl,h1,r1⟩:=trodAll_cons r0;obtain⟨rfl,rfl,rfl⟩:=trodAll_nil r1;obtain rfl:args=#[v0,v1]:=by cases args;simp_all
 obtain⟨rfl,rfl⟩:=trodVars_none hV;have k0:=h0;have lt0:∀x∈p0,x.block<W.heap.size:=by obtain⟨m,hm⟩:=k0;exact DataW.trod_lt m _ _ _ hm
 have k1:=h1;have lt1:∀x∈p1,x.block<W.heap.size:=by obtain⟨m,hm⟩:=k1;exact DataW.trod_lt m _ _ _ hm
 clear hA0 hval0;refine(main W v0 (Law15.PO (hval 0 72 v0 rfl rfl) h0 (fun k hk=>of_decide_eq_true (List.all_eq_true.1 hwt k (DataW.weights_mem_each (j:=0) rfl rfl k hk)))) v1 (U4 (hval 1 24 v1 rfl rfl) h1)).mono fun e W' ⟨he,ha⟩=>?_
 have bel:Below W.heap.size W W':=ha.below (Nat.le_refl _) (fun _=>fEq);subst he;exact⟨_,rfl,_,_,_,[],_,[],hW',trodAll_mk1 (shut_bool Tryz.underlying4 _),(trodAll_cons_mk (Below.trod laidOut (by kernel_rfl) (of_decide_eq_true (by kernel_rfl)) k0 bel lt0) (trodAll_cons_mk (Below.trod laidOut (by kernel_rfl) (of_decide_eq_true (by kernel_rfl)) k1 bel lt1) trodAll_mk0)),rfl,bel.frame _,fun h=>by cases h⟩
theorem P3:(Rows.proofHoldsRow.inPlace == Tryz.prog.inPlace 8)=true:=by kernel_rfl
theorem Mh:(Rows.proofHoldsRow.unfollowed == Tryz.prog.unfollowed 8)=true:=by kernel_rfl
theorem O9:(Rows.proofHoldsRow.recurses == Tryz.prog.recurses 8)=true:=by kernel_rfl
theorem Uo:(Rows.proofHoldsRow.named == Tryz.prog.varsNamed 8)=true:=by kernel_rfl
theorem U6:mapsRowed Tryz.prog=true:=by kernel_rfl
theorem closed:joinedFacts Tryz.prog 8 Tryz.f8 Rows.proofHoldsSpec Rows.proofHoldsRow=true:=by
 unfold joinedFacts;rw[P3,Mh,O9,Uo,U6,laidOut]
 kernel_rfl
theorem RO:Rows.proofHoldsRow.holds Tryz.pinned (OpenSpec.ofChange Rows.proofHoldsSpec) :=
 OpenClaim.holds_of_wide 8 Tryz.f8 rfl rfl rfl rfl rfl rfl rfl ⟨rfl,rfl,rfl,rfl,rfl⟩ rfl rfl rfl rfl rfl (by kernel_rfl) Tryz.func8 closed
  (of_decide_eq_true (by kernel_rfl)) (by unfold Func.isWrapper;first|(rw[if_pos (by decide +kernel)];kernel_rfl)|(rw[if_neg (by decide +kernel)];exact⟨rfl,rfl⟩))
  (fun os started H enc _=>lifted os started H enc)
theorem proved:Rows.ProofHoldsSaid:=RO
#print axioms proved
end Go.Proofs.YtooijgcildbnlaaGreat.proofHolds
