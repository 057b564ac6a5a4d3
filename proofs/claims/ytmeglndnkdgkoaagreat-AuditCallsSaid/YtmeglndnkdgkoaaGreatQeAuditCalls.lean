/- The law AuditCalls returns true, whatever comes in. -/
import Derived.Test.YtmeglndnkdgkoaaGreatQe39
import Derived.Test.YtmeglndnkdgkoaaGreatRows
set_option maxHeartbeats 3200000
set_option maxRecDepth 100000
set_option linter.unusedVariables false
namespace Go.Proofs.YtmeglndnkdgkoaaGreat.auditCalls
open Go.ChangeShapes Go.WideShapes Go.ChangeAt Go.RowKit Go.Deep Go.Proofs.YtmeglndnkdgkoaaGreat.Store
theorem main (W:World) (a0:Int) (h0:(Lit.int .i64 a0).wf = true) (v1:Value) (h1:InActs9 W v1) (v2:Value) (h2:InInts W v2):Calls Tryz.prog 11 #[.int .i64 a0,v1,v2] W fun e w' => e = .returned (.bool true) ∧ Adds W w':=by
 obtain ⟨ao,len,cap,rfl,ha⟩:=h1
 obtain ⟨ro,R,rcap,rfl,hR,_,hc,hm⟩:=h2
 exact calls_law a0 cap ha rcap hR
theorem own:ownKnob Tryz.prog.godebug = none:=by kernel_rfl
theorem laidOut:laidOutB Tryz.prog = true:=by kernel_rfl
theorem lifted (os:Os) (started:os.Started) (H:Type) (enc:TypeId × Value → H) :
 ReturnsInHanded {} Tryz.checked os 11 .any (Rows.auditCallsSpec.pre6 enc Tryz.prog Tryz.f11 Rows.auditCallsRow.domain false) (Rows.auditCallsSpec.post enc Tryz.prog Tryz.f11 false true false false):=by
 refine returnsInHanded_of_change (C:=Tryz.checked) own started (by kernel_rfl) Tryz.func11
  (ChangeSpec.witness6 (enc:=enc) (C:=Tryz.checked) false ⟨#[], #[.int .i64 0,.slice none 0 0,.slice none 0 0],[]⟩ 8 (by kernel_rfl) (by kernel_rfl) (by kernel_rfl) (by kernel_rfl)) ?_
 intro W base args ds gs before hval0 hW hcnd _
 have hval:∀ (j:Nat) t v,Tryz.f11.params[j]? = some t → args[j]? = some v → Value.okWide Tryz.prog W .any base t v:=hval0
 have hW':=hW
 obtain ⟨p,q,hA0,hV,rfl,hfz,hnd⟩:=hW
 have hA:DataW.TrodAll enc Tryz.prog W 0 (fun _ => true) true Tryz.f11.params.toList args.toList ds p:=hA0
 rw [Tryz.params11] at hA hval
 obtain ⟨v0,vs0,d0,ds0,p0,q0,hargs,rfl,rfl,h0,r0⟩:=trodAll_cons hA
 obtain ⟨v1,vs1,d1,ds1,p1,q1,rfl,rfl,rfl,h1,r1⟩:=trodAll_cons r0
 obtain ⟨v2,vs2,d2,ds2,p2,q2,rfl,rfl,rfl,h2,r2⟩:=trodAll_cons r1
 obtain ⟨rfl,rfl,rfl⟩:=trodAll_nil r2
 obtain rfl:args = #[v0,v1,v2]:=by cases args; simp_all
 obtain ⟨rfl,rfl⟩:=trodVars_none hV
 obtain ⟨a0,rfl,rfl,rfl,w0⟩:=open_int Tryz.underlying3 (hval 0 3 v0 rfl rfl) h0
 have k1:=h1
 have lt1:∀ x ∈ p1,x.block < W.heap.size:=by obtain ⟨m,hm⟩:=k1; exact DataW.trod_lt m _ _ _ hm
 have k2:=h2
 have lt2:∀ x ∈ p2,x.block < W.heap.size:=by obtain ⟨m,hm⟩:=k2; exact DataW.trod_lt m _ _ _ hm
 clear hA0 hval0
 refine (main W a0 w0 v1 (in_acts9 (hval 1 38 v1 rfl rfl) h1) v2 (in_ints (hval 2 43 v2 rfl rfl) h2)).mono fun e W' ⟨he,ha⟩ => ?_
 have bel:Below W.heap.size W W':=ha.below (Nat.le_refl _) (fun _ => fEq)
 subst he
 exact ⟨_,rfl,_,_,_,[],_,[],hW',trodAll_mk1 (shut_bool Tryz.underlying4 _),(trodAll_cons_mk (shut_int Tryz.underlying3 w0) (trodAll_cons_mk (Below.trod laidOut (by kernel_rfl) (of_decide_eq_true (by kernel_rfl)) k1 bel lt1) (trodAll_cons_mk (Below.trod laidOut (by kernel_rfl) (of_decide_eq_true (by kernel_rfl)) k2 bel lt2) trodAll_mk0))),rfl,bel.frame _,fun h => by cases h⟩
theorem k_inPlace:(Rows.auditCallsRow.inPlace == Tryz.prog.inPlace 11) = true:=by kernel_rfl
theorem k_unfollowed:(Rows.auditCallsRow.unfollowed == Tryz.prog.unfollowed 11) = true:=by kernel_rfl
theorem k_recurses:(Rows.auditCallsRow.recurses == Tryz.prog.recurses 11) = true:=by kernel_rfl
theorem k_named:(Rows.auditCallsRow.named == Tryz.prog.varsNamed 11) = true:=by kernel_rfl
theorem k_rowed:mapsRowed Tryz.prog = true:=by kernel_rfl
theorem closed:joinedFacts Tryz.prog 11 Tryz.f11 Rows.auditCallsSpec Rows.auditCallsRow = true:=by
 unfold joinedFacts
 rw [k_inPlace,k_unfollowed,k_recurses,k_named,k_rowed,laidOut]
 kernel_rfl
theorem over:Rows.auditCallsRow.holds Tryz.pinned (OpenSpec.ofChange Rows.auditCallsSpec) :=
 OpenClaim.holds_of_wide 11 Tryz.f11 rfl rfl rfl rfl rfl rfl rfl ⟨rfl,rfl,rfl,rfl,rfl⟩ rfl rfl rfl rfl rfl (by kernel_rfl) Tryz.func11 closed
  (of_decide_eq_true (by kernel_rfl)) (by unfold Func.isWrapper; first | (rw [if_pos (by decide +kernel)]; kernel_rfl) | (rw [if_neg (by decide +kernel)]; exact ⟨rfl,rfl⟩))
  (fun os started H enc _ => lifted os started H enc)
theorem proved:Rows.AuditCallsSaid:=over
#print axioms proved
end Go.Proofs.YtmeglndnkdgkoaaGreat.auditCalls
