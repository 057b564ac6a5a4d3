/- The law DictBack returns true, whatever comes in. -/
import Derived.Test.YtooijgcildbnlaaGreatQh37
import Derived.Test.YtooijgcildbnlaaGreatQh38
import Derived.Test.YtooijgcildbnlaaGreatRows
set_option maxHeartbeats 3200000
set_option maxRecDepth 100000
set_option linter.unusedVariables false
namespace Go.Proofs.YtooijgcildbnlaaGreat.dictBack
open Go.ChangeShapes Go.WideShapes Go.ChangeAt Go.RowKit Go.Deep Go.Proofs.YtooijgcildbnlaaGreat.Store
theorem main (W:World) (v0:Value) (h0:Law15.Hy W v0) (v1:Value) (h1:QT W v1) (v2:Value) (h2:Nt W v2) (v3:Value) (h3:Law15.Hy W v3):Calls Tryz.prog 5 #[v0,v1,v2,v3] W fun e w'=>e=.returned (.bool true)∧Adds W w':=by
 obtain⟨ao,l,cap,rfl,hl,hla,hll⟩:=h0;obtain⟨key,hk,rfl⟩:=h1;obtain⟨bs,hb,hvb⟩:=h2;obtain⟨vo,vc,rfl,_,_⟩:=hb.form;obtain⟨bo,m,cap2,rfl,hm,hma,hml⟩:=h3;exact Law15.Rx cap cap2 hl hm hla hma hll hml hk hb hvb
theorem own:ownKnob Tryz.prog.godebug=none:=by kernel_rfl
theorem laidOut:laidOutB Tryz.prog=true:=by kernel_rfl
theorem lifted (os:Os) (started:os.Started) (H:Type) (enc:TypeId×Value→H) :
 ReturnsInHanded {} Tryz.checked os 5 .any (Rows.dictBackSpec.pre6 enc Tryz.prog Tryz.f5 Rows.dictBackRow.domain false) (Rows.dictBackSpec.post enc Tryz.prog Tryz.f5 false true false false):=by
 refine returnsInHanded_of_change_sized (C:=Tryz.checked) own started (by kernel_rfl) Tryz.func5
  (ChangeSpec.witness6 (enc:=enc) (C:=Tryz.checked) false ⟨#[], #[.slice none 0 0,.agg #[.int .u8 0,.int .u8 0,.int .u8 0,.int .u8 0,.int .u8 0,.int .u8 0,.int .u8 0,.int .u8 0,.int .u8 0,.int .u8 0,.int .u8 0,.int .u8 0,.int .u8 0,.int .u8 0,.int .u8 0,.int .u8 0,.int .u8 0,.int .u8 0,.int .u8 0,.int .u8 0,.int .u8 0,.int .u8 0,.int .u8 0,.int .u8 0,.int .u8 0,.int .u8 0,.int .u8 0,.int .u8 0,.int .u8 0,.int .u8 0,.int .u8 0,.int .u8 0],.slice none 0 0,.slice none 0 0],[]⟩ 8 (by kernel_rfl) (by kernel_rfl) (by kernel_rfl) (by kernel_rfl)) ?_
 intro W base args ds gs before hval0 hW hcnd hwt _;have hval:∀(j:Nat) t v,Tryz.f5.params[j]?=some t→args[j]?=some v→Value.okWide Tryz.prog W .any base t v:=hval0;have hW':=hW;obtain⟨p,q,hA0,hV,rfl,hfz,hnd⟩:=hW;have hA:DataW.TrodAll enc Tryz.prog W 0 (fun _=>true) true Tryz.f5.params.toList args.toList ds p:=hA0;rw[Tryz.params5] at hA hval hwt;obtain⟨v0,vs0,d0,ds0,p0,q0,hargs,rfl,rfl,h0,r0⟩:=trodAll_cons hA;obtain⟨v1,vs1,d1,ds1,p1,q1,rfl,rfl,rfl,h1,r1⟩:=trodAll_cons r0;obtain⟨v2,vs2,d2,ds2,p2,q2,rfl,rfl,rfl,h2,r2⟩:=trodAll_cons r1;obtain⟨v3,vs3,d3,ds3,p3,q3,rfl,rfl,rfl,h3,r3⟩:=trodAll_cons r2;obtain⟨rfl,rfl,rfl⟩:=trodAll_nil r3;obtain rfl:args=#[v0,v1,v2,v3]:=by cases args;simp_all
 obtain⟨rfl,rfl⟩:=trodVars_none hV;have k0:=h0;have lt0:∀x∈p0,x.block<W.heap.size:=by obtain⟨m,hm⟩:=k0;exact DataW.trod_lt m _ _ _ hm
 have k1:=h1;have lt1:∀x∈p1,x.block<W.heap.size:=by obtain⟨m,hm⟩:=k1;exact DataW.trod_lt m _ _ _ hm
 have k2:=h2;have lt2:∀x∈p2,x.block<W.heap.size:=by obtain⟨m,hm⟩:=k2;exact DataW.trod_lt m _ _ _ hm
 have k3:=h3;have lt3:∀x∈p3,x.block<W.heap.size:=by obtain⟨m,hm⟩:=k3;exact DataW.trod_lt m _ _ _ hm
 clear hA0 hval0;refine(main W v0 (Law15.Iz (hval 0 72 v0 rfl rfl) h0 (fun k hk=>of_decide_eq_true (List.all_eq_true.1 hwt k (DataW.weights_mem_each (j:=0) rfl rfl k hk)))) v1 (SM (hval 1 24 v1 rfl rfl) h1) v2 (QS (hval 2 73 v2 rfl rfl) h2) v3 (Law15.Iz (hval 3 72 v3 rfl rfl) h3 (fun k hk=>of_decide_eq_true (List.all_eq_true.1 hwt k (DataW.weights_mem_each (j:=3) rfl rfl k hk))))).mono fun e W' ⟨he,ha⟩=>?_
 have bel:Below W.heap.size W W':=ha.below (Nat.le_refl _) (fun _=>fEq);subst he;exact⟨_,rfl,_,_,_,[],_,[],hW',trodAll_mk1 (shut_bool Tryz.underlying4 _),(trodAll_cons_mk (Below.trod laidOut (by kernel_rfl) (of_decide_eq_true (by kernel_rfl)) k0 bel lt0) (trodAll_cons_mk (Below.trod laidOut (by kernel_rfl) (of_decide_eq_true (by kernel_rfl)) k1 bel lt1) (trodAll_cons_mk (Below.trod laidOut (by kernel_rfl) (of_decide_eq_true (by kernel_rfl)) k2 bel lt2) (trodAll_cons_mk (Below.trod laidOut (by kernel_rfl) (of_decide_eq_true (by kernel_rfl)) k3 bel lt3) trodAll_mk0)))),rfl,bel.frame _,fun h=>by cases h⟩
theorem OX:(Rows.dictBackRow.inPlace == Tryz.prog.inPlace 5)=true:=by kernel_rfl
theorem LM:(Rows.dictBackRow.unfollowed == Tryz.prog.unfollowed 5)=true:=by kernel_rfl
theorem NR:(Rows.dictBackRow.recurses == Tryz.prog.recurses 5)=true:=by kernel_rfl
theorem Ro:(Rows.dictBackRow.named == Tryz.prog.varsNamed 5)=true:=by kernel_rfl
theorem Sa:mapsRowed Tryz.prog=true:=by kernel_rfl
theorem closed:joinedFacts Tryz.prog 5 Tryz.f5 Rows.dictBackSpec Rows.dictBackRow=true:=by
 unfold joinedFacts;rw[OX,LM,NR,Ro,Sa,laidOut]
 kernel_rfl
theorem PN:Rows.dictBackRow.holds Tryz.pinned (OpenSpec.ofChange Rows.dictBackSpec) :=
 OpenClaim.holds_of_wide 5 Tryz.f5 rfl rfl rfl rfl rfl rfl rfl ⟨rfl,rfl,rfl,rfl,rfl⟩ rfl rfl rfl rfl rfl (by kernel_rfl) Tryz.func5 closed
  (of_decide_eq_true (by kernel_rfl)) (by unfold Func.isWrapper;first|(rw[if_pos (by decide +kernel)];kernel_rfl)|(rw[if_neg (by decide +kernel)];exact⟨rfl,rfl⟩))
  (fun os started H enc _=>lifted os started H enc)
theorem proved:Rows.DictBackSaid:=PN
#print axioms proved
end Go.Proofs.YtooijgcildbnlaaGreat.dictBack
