/- The law TopOrders returns true, whatever comes in. -/
import Derived.Test.YtngbdbpofifimaaGreatQl49
import Derived.Test.YtngbdbpofifimaaGreatRows
set_option maxHeartbeats 3200000
set_option maxRecDepth 100000
set_option linter.unusedVariables false
namespace Go.Proofs.YtngbdbpofifimaaGreat.topOrders
open Go.ChangeShapes Go.WideShapes Go.ChangeAt Go.RowKit Go.Deep Go.Proofs.YtngbdbpofifimaaGreat.Store
theorem main (W:World) (v0:Value) (h0:Law15.NG W v0) (v1:Value) (h1:VA W v1) (a2:Int) (h2:(Lit.int .i64 a2).wf=true) (a3:Int) (h3:(Lit.int .i64 a3).wf=true) (v4:Value) (h4:U1 W v4):Calls Tryz.prog 5 #[v0,v1,.int .i64 a2,.int .i64 a3,v4] W fun e w'=>e=.returned (.bool true)∧Adds W w':=by
 obtain⟨ao,l,cap,rfl,hl,hla,hll⟩:=h0;obtain⟨bo,ks,cb,rfl,hi,_,hkl,hkc⟩:=h1;obtain⟨key,hk,rfl⟩:=h4;exact Law15.RW cap hl hla hll cb hi (Nat.le_trans hkl hkc) a2 a3 hk
theorem own:ownKnob Tryz.prog.godebug=none:=by kernel_rfl
theorem laidOut:laidOutB Tryz.prog=true:=by kernel_rfl
theorem lifted (os:Os) (started:os.Started) (H:Type) (enc:TypeId×Value→H) :
 ReturnsInHanded {} Tryz.checked os 5 .any (Rows.topOrdersSpec.pre6 enc Tryz.prog Tryz.f5 Rows.topOrdersRow.domain false) (Rows.topOrdersSpec.post enc Tryz.prog Tryz.f5 false true false false):=by
 refine returnsInHanded_of_change_sized (C:=Tryz.checked) own started (by kernel_rfl) Tryz.func5
  (ChangeSpec.witness6 (enc:=enc) (C:=Tryz.checked) false ⟨#[], #[.slice none 0 0,.slice none 0 0,.int .i64 0,.int .i64 0,.agg #[.int .u8 0,.int .u8 0,.int .u8 0,.int .u8 0,.int .u8 0,.int .u8 0,.int .u8 0,.int .u8 0,.int .u8 0,.int .u8 0,.int .u8 0,.int .u8 0,.int .u8 0,.int .u8 0,.int .u8 0,.int .u8 0,.int .u8 0,.int .u8 0,.int .u8 0,.int .u8 0,.int .u8 0,.int .u8 0,.int .u8 0,.int .u8 0,.int .u8 0,.int .u8 0,.int .u8 0,.int .u8 0,.int .u8 0,.int .u8 0,.int .u8 0,.int .u8 0]],[]⟩ 8 (by kernel_rfl) (by kernel_rfl) (by kernel_rfl) (by kernel_rfl)) ?_
 intro W base args ds gs before hval0 hW hcnd hwt _;have hval:∀(j:Nat) t v,Tryz.f5.params[j]?=some t→args[j]?=some v→Value.okWide Tryz.prog W .any base t v:=hval0;have hW':=hW;obtain⟨p,q,hA0,hV,rfl,hfz,hnd⟩:=hW;have hA:DataW.TrodAll enc Tryz.prog W 0 (fun _=>true) true Tryz.f5.params.toList args.toList ds p:=hA0;rw[Tryz.params5] at hA hval hwt;obtain⟨v0,vs0,d0,ds0,p0,q0,hargs,rfl,rfl,h0,r0⟩:=trodAll_cons hA;obtain⟨v1,vs1,d1,ds1,p1,q1,rfl,rfl,rfl,h1,r1⟩:=trodAll_cons r0;obtain⟨v2,vs2,d2,ds2,p2,q2,rfl,rfl,rfl,h2,r2⟩:=trodAll_cons r1;obtain⟨v3,vs3,d3,ds3,p3,q3,rfl,rfl,rfl,h3,r3⟩:=trodAll_cons r2;obtain⟨v4,vs4,d4,ds4,p4,q4,rfl,rfl,rfl,h4,r4⟩:=trodAll_cons r3;obtain⟨rfl,rfl,rfl⟩:=trodAll_nil r4;obtain rfl:args=#[v0,v1,v2,v3,v4]:=by cases args;simp_all
 obtain⟨rfl,rfl⟩:=trodVars_none hV;have k0:=h0;have lt0:∀x∈p0,x.block<W.heap.size:=by obtain⟨m,hm⟩:=k0;exact DataW.trod_lt m _ _ _ hm
 have k1:=h1;have lt1:∀x∈p1,x.block<W.heap.size:=by obtain⟨m,hm⟩:=k1;exact DataW.trod_lt m _ _ _ hm
 obtain⟨a2,rfl,rfl,rfl,w2⟩:=open_int Tryz.underlying3 (hval 2 3 v2 rfl rfl) h2;obtain⟨a3,rfl,rfl,rfl,w3⟩:=open_int Tryz.underlying3 (hval 3 3 v3 rfl rfl) h3;have k4:=h4;have lt4:∀x∈p4,x.block<W.heap.size:=by obtain⟨m,hm⟩:=k4;exact DataW.trod_lt m _ _ _ hm
 clear hA0 hval0;refine(main W v0 (Law15.Qb (hval 0 22 v0 rfl rfl) h0 (fun k hk=>of_decide_eq_true (List.all_eq_true.1 hwt k (DataW.weights_mem_each (j:=0) rfl rfl k hk)))) v1 (Xv (hval 1 61 v1 rfl rfl) h1) a2 w2 a3 w3 v4 (Xi (hval 4 47 v4 rfl rfl) h4)).mono fun e W' ⟨he,ha⟩=>?_
 have bel:Below W.heap.size W W':=ha.below (Nat.le_refl _) (fun _=>fEq);subst he;exact⟨_,rfl,_,_,_,[],_,[],hW',trodAll_mk1 (shut_bool Tryz.underlying4 _),(trodAll_cons_mk (Below.trod laidOut (by kernel_rfl) (of_decide_eq_true (by kernel_rfl)) k0 bel lt0) (trodAll_cons_mk (Below.trod laidOut (by kernel_rfl) (of_decide_eq_true (by kernel_rfl)) k1 bel lt1) (trodAll_cons_mk (shut_int Tryz.underlying3 w2) (trodAll_cons_mk (shut_int Tryz.underlying3 w3) (trodAll_cons_mk (Below.trod laidOut (by kernel_rfl) (of_decide_eq_true (by kernel_rfl)) k4 bel lt4) trodAll_mk0))))),rfl,bel.frame _,fun h=>by cases h⟩
theorem UF:(Rows.topOrdersRow.inPlace == Tryz.prog.inPlace 5)=true:=by kernel_rfl
theorem Ol:(Rows.topOrdersRow.unfollowed == Tryz.prog.unfollowed 5)=true:=by kernel_rfl
theorem Q5:(Rows.topOrdersRow.recurses == Tryz.prog.recurses 5)=true:=by kernel_rfl
theorem Xe:(Rows.topOrdersRow.named == Tryz.prog.varsNamed 5)=true:=by kernel_rfl
theorem Ye:mapsRowed Tryz.prog=true:=by kernel_rfl
theorem closed:joinedFacts Tryz.prog 5 Tryz.f5 Rows.topOrdersSpec Rows.topOrdersRow=true:=by
 unfold joinedFacts;rw[UF,Ol,Q5,Xe,Ye,laidOut]
 kernel_rfl
theorem Yh:Rows.topOrdersRow.holds Tryz.pinned (OpenSpec.ofChange Rows.topOrdersSpec) :=
 OpenClaim.holds_of_wide 5 Tryz.f5 rfl rfl rfl rfl rfl rfl rfl ⟨rfl,rfl,rfl,rfl,rfl⟩ rfl rfl rfl rfl rfl (by kernel_rfl) Tryz.func5 closed
  (of_decide_eq_true (by kernel_rfl)) (by unfold Func.isWrapper;first|(rw[if_pos (by decide +kernel)];kernel_rfl)|(rw[if_neg (by decide +kernel)];exact⟨rfl,rfl⟩))
  (fun os started H enc _=>lifted os started H enc)
theorem proved:Rows.TopOrdersSaid:=Yh
#print axioms proved
end Go.Proofs.YtngbdbpofifimaaGreat.topOrders
