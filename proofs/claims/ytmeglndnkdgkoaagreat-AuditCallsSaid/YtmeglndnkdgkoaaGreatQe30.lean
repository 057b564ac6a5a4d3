/- Laws of the layers below. -/
import Derived.Test.YtmeglndnkdgkoaaGreatQe29
set_option maxHeartbeats 3200000
set_option maxRecDepth 100000
set_option linter.unusedVariables false
namespace Go.Proofs.YtmeglndnkdgkoaaGreat.Store
open Go.RowKit Go.Proofs.YtmeglndnkdgkoaaGreat.ShaW Go.Proofs.YtmeglndnkdgkoaaGreat.Path
section
variable {w0 w : World} {b : Nat} {σ : SlabSt Nd} {G : Nat → Prop} {ao lo : Option Addr} {R L : List Int}
theorem ROw.countA (h:ROw w0 w b σ G) (GG:Good σ) (n:Int):Calls Tryz.prog 119 #[.pointer (some ⟨b,0,none⟩),.int .i64 n] w fun e w' => e = .returned (.int .i64 (σ.count n:Nat)) ∧ Adds w w':=by
 obtain ⟨ρ,F,h1,L,_⟩:=h
 exact (RCount_ok h1 n).mono fun e w' ⟨he,a⟩ => ⟨by rw [he,L.count GG],a⟩
theorem RCheck_good (h:ROw w0 w b σ G) (GG:Good σ) (cap:Nat) (hR:IntsAt w ao R) (hc:chk σ R = 0) :
 Calls Tryz.prog 43 #[.pointer (some ⟨b,0,none⟩),.slice ao R.length cap] w fun e w' => ∃ v k,e = .returned (.tuple #[v,.int .i64 0]) ∧ Wanting σ R k.todo.length k ∧ w'.ownsRow w.heap.size 103 3 v (finds σ k.cnt).length (fdL (finds σ k.cnt)) ∧ Adds w w':=by
 have hk:=RReached_good h GG cap hR hc
 obtain ⟨hl64,_⟩:=chk_there hc
 obtain ⟨n,hn⟩:∃ n,n = R.length:=⟨_,rfl⟩
 rw [← hn] at hk hl64 ⊢
 have hhs:(handles σ).length ≤ 65536:=handles_le GG
 have hhd:=fun w1 (a:Adds w w1) => (h.adds a).handles GG
 have hct:=fun w1 (a:Adds w w1) x => (h.adds a).countA GG x
 obtain ⟨L,hL⟩:∃ L,L = (handles σ).length:=⟨_,rfl⟩
 rw [← hL] at hhs hhd
 obtain ⟨i0,z0,p1,p2,p3,p4,p5⟩:=infoF
 have HI:=(hIq p1 (aIq p2 (aIq p3 (aIq p4 p5))))
 have HK:=(hIq hk (aIq hhd (aIq h (aIq GG (aIq hR (aIq hn (aIq hL hct)))))))
 clear hk hhd hR hn h GG hc hL hct p1 p2 p3 p4 p5
 go_enter Tryz.func43,Tryz.ntmps43
 go_wp2_with fail
 refine HK.out.1.mono ?_; rintro e w1 ⟨v,k,rfl,hW,hM⟩
 obtain ⟨⟨q,qc,rfl,own⟩,hA⟩:=hM
 have hI:=(IntsAt.own own).1
 have hrl:=reachI_len k.todo (handles σ)
 have hfs:=finds_same hW
 obtain ⟨S,hS⟩:∃ S,S = reachI k.todo (handles σ):=⟨_,rfl⟩
 rw [← hS] at hI hrl hfs ⊢
 obtain ⟨sl,hsl⟩:∃ sl,sl = S.length:=⟨_,rfl⟩
 have hsl6:sl ≤ 65536:=by have:=HK.out.2.2.2.2.2.2.1; omega
 rw [← hsl] at ⊢
 have hwt:=fun w2 (a:Adds w1 w2) x => RWant_ok (HK.out.2.2.1.adds (hA.trans a (fun _ => fEq))) HK.out.2.2.2.1 qc cap (hI.adds a) hsl.symm hsl6 (HK.out.2.2.2.2.1.adds (hA.trans a (fun _ => fEq))) HK.out.2.2.2.2.2.1.symm hl64 x
 have H1:=(hIq hA (aIq hwt (aIq hW hfs)))
 have HHD:=Lib.hid (HK.out.2.1 _ hA)
 clear own hI hA hrl hS hsl hW hwt hfs
 go_wp2_with fail
 refine HHD.out.mono ?_; rintro e w3 ⟨v3,rfl,o3,a3⟩
 obtain ⟨vo,vc,rfl⟩:=owns_form o3
 have hi3:IntsAt w3 vo ((handles σ).map fun n:Nat => (n:Int)):=by
  have:ints (handles σ) = intL ((handles σ).map fun n:Nat => (n:Int)):=by simp [ints,intL,List.map_map]
  rw [this] at o3
  exact (IntsAt.own o3).1
 have H3:=(hIq hi3 (aIq a3 (H1.out.1.trans a3 (fun _ => fEq))))
 clear hi3 o3 a3 HHD
 go_wp2
 go_loopg [8,10,11] L (fun g s8 s10 s11 wr => ∃ (i len:Nat) (qo:Option Addr) (qc:Nat),s10 = .int .i64 i ∧ i + g = L ∧ s8 = .slice qo len qc ∧ len = (findsL σ (wantL σ S R) ((handles σ).take i)).length ∧ wr.ownsRow w3.heap.size 103 3 (.slice qo len qc) len (fdL (findsL σ (wantL σ S R) ((handles σ).take i))) ∧ Adds w3 wr)
 case atStart => exact ⟨0,0,none,0,rfl,by omega,rfl,rfl,World.ownsRow_nil _ _ _ _,Ch.refl _ _⟩
 obtain ⟨i,len,qo,qc',rfl,hi,rfl,hlen,hown,hA⟩:=hrel
 have hle:len ≤ 65536:=by
  have h1:=findsL_len σ (wantL σ S R) ((handles σ).take i)
  rw [List.length_take] at h1
  have:=HK.out.2.2.2.2.2.2.1
  omega
 have HA:=(hIq hA (aIq hown hlen))
 clear hA hown hlen
 by_cases hin:i = L
 · subst hin
   have hlt:¬ (i:Int) < (i:Int):=by omega
   clear hi
   go_wp2
   go_ret2
   refine ⟨_,rfl,k,H1.out.2.2.1,?_,H3.out.2.2.trans HA.out.1 (fun _ => fEq)⟩
   have h9:(handles σ).take i = handles σ:=List.take_of_length_le (Nat.le_of_eq HK.out.2.2.2.2.2.2.1.symm)
   have h1:=HA.out.2.1
   have h2:=HA.out.2.2
   rw [h9, ← H1.out.2.2.2] at h1 h2
   rw [← h2]
   exact h1.base (fun j hj => Nat.le_trans H3.out.2.2.size (h1.lt j hj).1)
 have hi1:(i:Int) < (L:Int):=by omega
 have hi2:i < L:=by omega
 obtain ⟨g,rfl⟩:∃ g,gk = g + 1:=⟨gk - 1,by omega⟩
 obtain ⟨x,hx⟩:∃ x,(handles σ)[i]? = some x:=⟨_,List.getElem?_eq_getElem (by have:=HK.out.2.2.2.2.2.2.1; omega)⟩
 obtain ⟨g1,o1,rfl,q1⟩:=H3.out.1 i (x:Int) (by rw [List.getElem?_map,hx]; rfl)
 have q1':=HA.out.1.cell q1 id
 obtain ⟨c,hc⟩:∃ c:Int,c = ((σ.count (x:Int):Nat):Int):=⟨_,rfl⟩
 obtain ⟨f,hf⟩:∃ f:Int,f = ((wantL σ S R (x:Int):Nat):Int):=⟨_,rfl⟩
 have hA1:Adds w1 wr:=H3.out.2.1.trans HA.out.1 (fun _ => fEq)
 have hwt:=H1.out.2.1 wr hA1 (x:Int)
 have hct:=fun w4 (a:Adds wr w4) => HK.out.2.2.2.2.2.2.2 w4 ((H3.out.2.2.trans HA.out.1 (fun _ => fEq)).trans a (fun _ => fEq)) (x:Int)
 rw [← hc] at hct
 rw [← hf] at hwt
 have hsn:(handles σ).take (i + 1) = (handles σ).take i ++ [x]:=by rw [List.take_add_one,hx]; rfl
 have hst:=findsL_snoc σ (wantL σ S R) ((handles σ).take i) x
 rw [← hc, ← hf, ← hsn] at hst
 have HST:=Lib.hid hst
 have HWT:=Lib.hid hwt
 have HCT:=Lib.hid hct
 have HQ1:RowKit.Hid (∀ w4,Adds wr w4 → w4.cell? ⟨g1,o1 + i,none⟩ = some (.int .i64 (x:Int))):=Lib.hid (fun w4 a => a.cell q1' id)
 have HQ3:RowKit.Hid (∀ w4,Adds w3 w4 → w4.cell? ⟨g1,o1 + i,none⟩ = some (.int .i64 (x:Int))):=Lib.hid (fun w4 a => a.cell q1 id)
 clear hx q1 hct hwt hc hf hsn hst hA1
 by_cases hcf:c = f
 · have hcb:(f != c) = false:=by simp [hcf]
   have HE:=HST.out
   rw [if_pos hcf,List.append_nil] at HE
   have HE:=Lib.hid HE
   clear hcf
   go_wp2_with fail
   refine HWT.out.mono ?_; rintro e w4 ⟨rfl,a4⟩
   have q4:=HQ1.out _ a4
   have HC4:=Lib.hid (HCT.out _ a4)
   have A4:=Lib.hid a4
   clear a4 q1'
   go_wp2_with fail
   refine HC4.out.mono ?_; rintro e w5 ⟨rfl,a5⟩
   have A5:=Lib.hid (A4.out.trans a5 (fun _ => fEq))
   clear a5 q4
   go_wp2
   go_roundg g
   case measure => omega
   exact ⟨i + 1,len,qo,qc',by simp,by omega,rfl,by rw [HE.out]; exact HA.out.2.2,by rw [HE.out]; exact A5.out.owns HA.out.2.1 (fun _ _ h => h),HA.out.1.trans A5.out (fun _ => fEq)⟩
 have hcb:(f != c) = true:=by simp; exact fun e => hcf e.symm
 have HE:=HST.out
 rw [if_neg hcf] at HE
 have HE:=Lib.hid HE
 clear hcf
 go_wp2_with fail
 refine HWT.out.mono ?_; rintro e w4 ⟨rfl,a4⟩
 have q4:=HQ1.out _ a4
 have HC4:=Lib.hid (HCT.out _ a4)
 have A4:=Lib.hid a4
 clear a4 q1'
 go_wp2_with fail
 refine HC4.out.mono ?_; rintro e w5 ⟨rfl,a5⟩
 have A5:=Lib.hid (A4.out.trans a5 (fun _ => fEq))
 have H35:=Lib.hid (show Adds w3 w5 from HA.out.1.trans A5.out (fun _ => fEq))
 have HC5:=Lib.hid (HCT.out _ (A5.out.trans (Ch.refl (fun _ => False) w5).drew (fun _ => fEq)))
 clear a5 q4
 go_wp2
 refine wp_region_plan (fun wz => Adds w3 wz) 16 [(0,false),(1,false),(2,false),(3,false),(4,false),(5,false),(6,false),(7,false),(8,false),(9,false),(10,false),(11,true),(12,false),(13,true),(14,true),(15,false)] (by kernel_rfl) (by kernel_rfl) ?_ ?_
 · exact H35.out.drew
 iterate 4
  refine plan_look rfl rfl (fun w0 hS => (by clear hS; go_simp; try rfl)) ?_
  simp only [Act.put,nAq,nBq,nCq]
 refine plan_look (v:=.int .i64 (x:Int)) rfl rfl (fun w0 hS => (by have c1:=HQ3.out w0 hS; clear hS; go_simp; try rfl)) ?_
 simp only [Act.put,nAq,nBq,nCq]
 iterate 5
  refine plan_look rfl rfl (fun w0 hS => (by clear hS; go_simp; try rfl)) ?_
  simp only [Act.put,nAq,nBq,nCq]
 refine plan_look (v:=.int .i64 (x:Int)) rfl rfl (fun w0 hS => (by have c1:=HQ3.out w0 hS; clear hS; go_simp; try rfl)) ?_
 simp only [Act.put,nAq,nBq,nCq]
 refine plan_do rfl ?_
 go_wp2_with fail
 refine HC5.out.mono ?_; rintro e w6 ⟨rfl,a6⟩
 have H6:=Lib.hid (show Adds w5 w6 from (Ch.refl (fun _ => False) w5).drew.trans a6 (fun _ => fEq))
 clear a6
 dsimp only
 go_step
 refine wpList_nil ?_
 change _ ∧ _
 refine ⟨H35.out.trans H6.out (fun _ => fEq),?_⟩
 refine plan_look (v:=.agg #[.int .i64 (x:Int),.int .i64 f,.int .i64 c]) rfl rfl (fun w0 hS => (by clear hS; go_simp; try rfl)) ?_
 simp only [Act.put,nAq,nBq,nCq]
 refine plan_do rfl ?_
 go_wp2_with (first
  | fail
  | ((with_reducible show zOq (.buildSlice 83 _ _)); refine wpList_buildSlice_one rfl 83 _ rfl 103 i0 z0 (.agg #[.int .i64 (x:Int),.int .i64 f,.int .i64 c]) rfl Tryz.underlying83 HI.out.1 HI.out.2.1 (by rw [HI.out.2.2.1]; decide) (by rw [HI.out.2.2.1]; decide) (by rw [HI.out.2.2.1]; rfl) ?_))
 have hA6:Adds w3 w6:=H35.out.trans H6.out (fun _ => fEq)
 refine ⟨hA6.alloc _,?_⟩
 have HOW:=Lib.hid ((A5.out.trans H6.out (fun _ => fEq)).owns HA.out.2.1 (fun _ _ h => h))
 have HA6:=Lib.hid hA6
 clear hA6
 refine plan_do rfl ?_
 go_wp2_with (first
  | fail
  | (at_builtin; refine wpList_append_own _ rfl _ _ 83 rfl w3.heap.size 103 i0 z0 3 24 Tryz.underlying83 HI.out.1 HI.out.2.1 HI.out.2.2.1 HI.out.2.2.2.1 HI.out.2.2.2.2 (by decide) (.slice qo len qc') len (fdL (findsL σ (wantL σ S R) ((handles σ).take i))) rfl (((Ch.refl (fun _ => False) w6).alloc _).owns HOW.out (fun _ _ h => h)) ⟨w6.heap.size,0,none⟩ 1 1 [.int .i64 (x:Int),.int .i64 f,.int .i64 c] rfl rfl (row_news (cs := #[.int .i64 (x:Int),.int .i64 f,.int .i64 c]) (t:=103) (fr:=(0,0)) (heap_alloc_new _ _)) (by simp [Value.oneCell']) (by unfold maxLen; omega) (by omega) (by have:=HA6.out.size; simp; omega) ?_; intro v' w8 own' grow' nil'))
 obtain ⟨ro,rc,rfl⟩:=owns_form own'
 have hA8:Adds w3 w8:=(HA6.out.alloc _).grown grow' (fun k hk => .inr (HOW.out.lt k hk).1)
 have H8:=(hIq own' hA8)
 clear own' grow' nil' hA8
 refine ⟨H8.out.2,?_⟩
 refine plan_look rfl rfl (fun w0 hS => (by clear hS; go_simp; try rfl)) ?_
 simp only [Act.put,nAq,nBq,nCq]
 refine plan_end ?_; simp only [List.drop_succ_cons,List.drop_zero]
 go_wp2
 refine NoPanic.normal ?_
 go_wp2
 go_roundg g
 case measure => omega
 exact ⟨i + 1,len + 1,ro,rc,by simp,by omega,rfl,by rw [HE.out,List.length_append, ← HA.out.2.2]; rfl,by rw [HE.out,fdL_append]; exact H8.out.1,H8.out.2⟩
def CheckRet (w w':World) (σ:SlabSt Nd) (R:List Int) (e:Ending):Prop :=
 ∃ (qo:Option Addr) (qc:Nat) (l:List (Int × Int × Int)),e = .returned (.tuple #[.slice qo l.length qc,.int .i64 (chk σ R)]) ∧ w'.ownsRow w.heap.size 103 3 (.slice qo l.length qc) l.length (fdL l) ∧ Adds w w' ∧
  ((chk σ R ≠ 0 ∧ l = []) ∨ (chk σ R = 0 ∧ ∃ k,Wanting σ R k.todo.length k ∧ l = finds σ k.cnt))
theorem RCheck_any (h:ROw w0 w b σ G) (GG:Good σ) (cap:Nat) (hR:IntsAt w ao R) (hl:R.length < 4611686018427387904) :
 Calls Tryz.prog 43 #[.pointer (some ⟨b,0,none⟩),.slice ao R.length cap] w fun e w' => CheckRet w w' σ R e:=by
 unfold CheckRet
 by_cases hc:chk σ R = 0
 · refine (RCheck_good h GG cap hR hc).mono fun e w' ⟨v,k,he,hW,own,ha⟩ => ?_
   obtain ⟨q,qc,rfl⟩:=owns_form own
   exact ⟨q,qc,_,by rw [he,hc],own,ha,.inr ⟨hc,k,hW,rfl⟩⟩
 refine (RCheck_bad h GG cap hR hl hc).mono fun e w' ⟨he,ha⟩ => ⟨none,0,[],he,World.ownsRow_nil _ _ _ _,ha,.inl ⟨hc,rfl⟩⟩
theorem RLost_any (h:ROw w0 w b σ G) (GG:Good σ) (cap:Nat) (hR:IntsAt w ao R) (hl:R.length < 4611686018427387904) :
 Calls Tryz.prog 55 #[.pointer (some ⟨b,0,none⟩),.slice ao R.length cap] w fun e w' => AuditRet w w' σ R (fun k => lostL k.cnt (handles σ)) e:=by
 unfold AuditRet
 by_cases hc:chk σ R = 0
 · refine (RLost_good h GG cap hR hc).mono fun e w' ⟨v,k,he,hW,⟨⟨q,qc,hv,own⟩,ha⟩⟩ => ?_
   subst hv
   exact ⟨q,qc,_,by rw [he,hc],own,ha,.inr ⟨hc,k,hW,rfl⟩⟩
 refine (RLost_bad h GG cap hR hl hc).mono fun e w' ⟨he,ha⟩ => ⟨none,0,[],he,World.ownsRow_nil _ _ _ _,ha,.inl ⟨hc,rfl⟩⟩
end
section
variable {w : World} {s : Nat} {F : Nat → Prop} {σ : SlabSt Nd} {ao : Option Addr} {R : List Int}
theorem Check_any (h:At w s F σ) (G:Good σ) (cap:Nat) (hR:IntsAt w ao R) (hl:R.length < 4611686018427387904) :
 Calls Tryz.prog 42 #[.pointer (some ⟨s,0,none⟩),.slice ao R.length cap] w fun e w' => CheckRet w w' σ R e:=by
 unfold CheckRet
 by_cases hc:chk σ R = 0
 · refine (Check_good h G cap hR hc).mono fun e w' ⟨v,k,he,hW,own,ha⟩ => ?_
   obtain ⟨q,qc,rfl⟩:=owns_form own
   exact ⟨q,qc,_,by rw [he,hc],own,ha,.inr ⟨hc,k,hW,rfl⟩⟩
 refine (Check_bad h cap hR hl hc).mono fun e w' ⟨he,ha⟩ => ⟨none,0,[],he,World.ownsRow_nil _ _ _ _,ha,.inl ⟨hc,rfl⟩⟩
theorem reached_pick {k1 k2:Wk} (W1:Wanting σ R k1.todo.length k1) (W2:Wanting σ R k2.todo.length k2):k1.todo.mergeSort leI = reachI k2.todo (handles σ) ∧ (k1.todo.mergeSort leI).length ≤ (handles σ).length:=by
 rw [← reachI_sort W2]
 refine ⟨mergeSort_int (W1.same W2).1,?_⟩
 rw [(List.mergeSort_perm _ _).length_eq]
 exact nodup_len W1.nodup W1.there
theorem lost_pick {k1 k2:Wk} (W1:Wanting σ R k1.todo.length k1) (W2:Wanting σ R k2.todo.length k2):lostL k1.cnt (handles σ) = lostL k2.cnt (handles σ) ∧ (lostL k1.cnt (handles σ)).length ≤ (handles σ).length:=by
 rw [(W1.same W2).2]
 exact ⟨rfl,lostL_len _ _⟩
theorem shared_pick {k1 k2:Wk} (W1:Wanting σ R k1.todo.length k1) (W2:Wanting σ R k2.todo.length k2):(k1.todo.filter fun x => decide (1 < k1.cnt x)).length = (k2.todo.filter fun x => decide (1 < k2.cnt x)).length:=by
 obtain ⟨hp,hc⟩:=W1.same W2
 rw [hc]
 exact (hp.filter _).length_eq
end
end Go.Proofs.YtmeglndnkdgkoaaGreat.Store
namespace Go.Proofs.YtmeglndnkdgkoaaGreat.Store
open Go.RowKit Go.Proofs.YtmeglndnkdgkoaaGreat.ShaW Go.Proofs.YtmeglndnkdgkoaaGreat.Path Go.Proofs.YtmeglndnkdgkoaaGreat.Law9
theorem sizePairR (w:World):(Go.sizeOf 159).run Tryz.prog w = .ok 33 w:=by
 obtain ⟨i0,z0,p1,p2,p3,p4,p5⟩:=infoPair
 simp [Go.sizeOf,Go.typeInfo,p1,p3,go_sem]
theorem Sp.entry_addr {x:Sp} (h:x.Ok):x.entry[32]? = some x.addr:=by
 rw [← Array.getElem?_toList]
 show (x.key.map bv ++ [x.addr])[32]? = _
 rw [List.getElem?_append_right (by simp [h.key])]
 simp [h.key]
section
variable {w w' : World} {b : Nat} {F : Nat → Prop} {ρ : Rs} {σ : SlabSt Nd}
theorem RAt.valueAt (h:RAt w b F ρ) (n:Int):Bytes w (ρ.sp n).addr (ρ.sp n).value ∧ ∀ k,(ρ.sp n).addr.ownBlock = some k → F k:=by
 have hz:Bytes w Sp.zero.addr Sp.zero.value ∧ ∀ k,Sp.zero.addr.ownBlock = some k → F k:=⟨Bytes.nil _,fun k hk => by cases hk⟩
 rcases ρ.parts n with ho | ⟨m,x,rfl,hm,hx⟩
 · rw [ρ.sp_out ho]; exact hz
 rw [ρ.sp_at hx]
 split
 · exact hz
 obtain ⟨_,_,_,_,_,_,h4,_⟩:=h
 exact ⟨(h4 x (List.mem_of_getElem? hx)).1,fun k hk => ((h4 x (List.mem_of_getElem? hx)).2 k hk).1⟩
theorem RValue_ok (h:RAt w b F ρ) (L:Lk σ ρ) (G:Good σ) (n:Int) :
 Calls Tryz.prog 156 #[.pointer (some ⟨b,0,none⟩),.int .i64 n] w fun e w' => ∃ v,e = .returned v ∧ Bytes w' v (nd σ n).value ∧ (∀ k,v.ownBlock = some k → F k) ∧ Adds w w':=by
 have hg:=Rat_ok h n
 obtain ⟨hok,ho,hs⟩:=h.1.ok n
 have hv:=h.valueAt n
 rw [L.value G] at hv
 obtain ⟨N,hN⟩:∃ N,N = (ρ.sp n).cells:=⟨_,rfl⟩
 obtain ⟨E,hE⟩:∃ E,E = (ρ.sp n).entry:=⟨_,rfl⟩
 obtain ⟨V,hV⟩:∃ V,V = (ρ.sp n).addr:=⟨_,rfl⟩
 have k0:=Sp.at_entry hok
 have k1:=Sp.entry_addr hok
 obtain ⟨ao,len,cap,ha⟩:=hok.addr
 rw [← hV] at ha
 subst ha
 rw [← hN, ← hE] at k0
 rw [← hE, ← hV] at k1
 rw [← hN] at hg
 rw [← hV] at hv
 have hf1:=fun w => run_field_part (P:=Tryz.prog) (w:=w) Tryz.underlying198 (i:=2) rfl (Tryz.isAgg159 w) (sizePairR w) k0
 have hf2:=fun w => run_field_one (P:=Tryz.prog) (w:=w) Tryz.underlying159 (i:=1) rfl (Tryz.isAgg32 w) k1
 have HG:=Lib.hid hg
 have HV:=Lib.hid hv
 clear hg hok ho hs hN k0 k1 hE hV hv h L G
 go_enter Tryz.func156,Tryz.ntmps156
 go_wp2_with fail
 refine HG.out.mono ?_; rintro e w1 ⟨rfl,a1⟩
 have A1:=Lib.hid a1
 clear a1
 go_wp2
 go_ret
 exact ⟨_,rfl,HV.out.1.keep A1.out (fun _ _ h => h),HV.out.2,A1.out⟩
theorem RKey_leaf (h:RAt w b F ρ) (L:Lk σ ρ) (G:Good σ) {n:Int} (hk:(nd σ n).kind = 1) :
 Calls Tryz.prog 153 #[.pointer (some ⟨b,0,none⟩),.int .i64 n] w fun e w' => e = .returned (.agg (brow (nd σ n).key)) ∧ Adds w w':=by
 obtain ⟨s,hs⟩:∃ s,σ.get? n = some s:=by
  cases hx:σ.get? n with
  | none => rw [nd_none hx] at hk; exact absurd (show (0:Nat) = 1 from hk) (by decide)
  | some x => exact ⟨x,rfl⟩
 rw [nd_some hs] at hk ⊢
 have hrep:Rep (sk σ) n 0 (.leaf (stat s.1).key (stat s.1).value):=.leaf (sk_some hs) hk
 obtain ⟨Z,hZ⟩:∃ Z,Z = brow (List.replicate 32 0):=⟨_,rfl⟩
 have hzp:=zeroP
 rw [← hZ] at hzp
 have hZs:Z.size = 32:=by rw [hZ]; rfl
 have a0:Adds w (w.alloc (.cells Z 31)):=(Ch.refl _ w).alloc _
 have hE:=REntries_ok L G hrep (h.adds a0)
 have hg:=fun w1 (a:Adds w w1) => Rat_ok (h.adds a) n
 obtain ⟨N,hN⟩:∃ N,N = (ρ.sp n).cells:=⟨_,rfl⟩
 have k0:N[0]? = some (.int .u8 1):=by
  rw [hN,Sp.at_kind,L.kind G,nd_some hs,hk]; rfl
 rw [← hN] at hg
 have hfd:=fun w => run_field_one (P:=Tryz.prog) (w:=w) Tryz.underlying198 (i:=0) rfl (Tryz.isAgg121 w) k0
 have HE:=Lib.hid hE
 have HG:=Lib.hid hg
 have HZ:=(hIq hzp (aIq hZs a0))
 obtain ⟨K,hK⟩:∃ K,K = brow s.1.key:=⟨_,rfl⟩
 have hkl:s.1.key.length = 32:=(G.fit.all _ _ (sk_some hs)).key
 have hKs:K.size = 32 ∧ ∀ v ∈ K.toList,v.oneCell' = true:=by rw [hK]; exact ⟨by rw [brow_size,hkl],fun v hv => by simp [brow] at hv; obtain ⟨_,_,rfl⟩:=hv; rfl⟩
 have HK:=(hIq hKs hK)
 rw [← hK]
 clear hE hg hzp hZs a0 hN k0 hrep h hZ hKs hK hkl
 go_enter Tryz.func153,Tryz.ntmps153
 go_wp2_with (first
  | fail
  | ((with_reducible show zOq (.alloc 31)); refine wpList_alloc_is rfl 31 rfl (.agg Z) HZ.out.1 ?_; dsimp only [Value.cells]; try simp only [World.size_alloc]))
 refine HE.out.mono ?_; rintro e w1 ⟨v,out,rfl,hp,he,hn,hx,a1⟩
 obtain ⟨ao,cap,rfl⟩:=owns_form hp
 have hlen:out.length = 1:=by
  have:=congrArg List.length he
  simpa [Tr.ents] using this
 obtain ⟨p,rfl⟩:=List.length_eq_one_iff.1 hlen
 have hpe:p.key = s.1.key:=by
  have:=he
  simp [Tr.ents,Pr.ent] at this
  exact this.1
 obtain ⟨g,cap',cur,e1,e2,e3,e4,e5,e6⟩:=owns_block hp (by simp)
 have hcur:cur.extract 0 (0 + 32) = K:=by
  have h2:flatP [p] = p.key.map bv ++ [p.vv]:=by simp [flatP,Pr.list]
  have hpl:p.key.length = 32:=(hx p (List.mem_singleton.2 rfl)).1
  have h1:cur.toList.take 33 = p.key.map bv ++ [p.vv]:=by
   rw [← h2, ← e6]
   rfl
  have h3:cur.toList.take 32 = p.key.map bv:=by
   have h4:(cur.toList.take 33).take 32 = cur.toList.take 32:=by rw [List.take_take]; rfl
   rw [← h4,h1,List.take_append_of_le_length (by simp [hpl]),List.take_of_length_le (by simp [hpl])]
  rw [hpe] at h3
  apply Array.ext'
  rw [Array.toList_extract,HK.out.2]
  simpa [List.extract,brow] using h3
 cases e1
 have hk1:=a1.row (heap_alloc_new w (.cells Z 31)) id
 have A1:=Lib.hid (HZ.out.2.2.trans a1 (fun _ => fEq))
 have H1:=(hIq hk1 (aIq e2 (aIq hcur (by have e3' : [p].length ≤ cap:=e3; simp at e3'; omega:32 ≤ cur.size))))
 have hgb:w.heap.size < g:=by
  have:=(hp.lt g rfl).1
  simp at this
  omega
 clear hp he hn hx a1 hpe e2 e3 e4 e5 e6 hcur hk1
 go_wp2_with fail
 refine (HG.out _ A1.out).mono ?_; rintro e w2 ⟨rfl,a2⟩
 have H2:=(hIq (a2.row H1.out.1 id) (aIq (a2.row H1.out.2.1 id) (A1.out.trans a2 (fun _ => fEq))))
 have hlt:=row_lt H2.out.1
 clear a2
 go_wp2_with (first
  | fail
  | ((with_reducible show zOq (.load 31 _)); refine wpList_load_part rfl 31 _ rfl g 0 rfl H2.out.2.1 Tryz.underlying31 rfl sizeP (by have:=H1.out.2.2.2; omega) K H1.out.2.2.1 ?_)
  | ((with_reducible show zOq (.store 31 _ _)); refine wpList_store_part rfl 31 _ _ rfl w.heap.size 0 K rfl rfl H2.out.1 (by rw [sizeP,HK.out.1.1]) (by rw [HK.out.1.1,HZ.out.2.1]; omega) HK.out.1.2 K (by rw [splice_all _ _ (by rw [Array.length_toList,Array.length_toList,HK.out.1.1,HZ.out.2.1])]) ?_))
 exact bodyPost_ret_cell1 (p:=4) rfl rfl (row_setRow_same H2.out.1 _) Tryz.underlying31 rfl (by rw [sizeP,HK.out.1.1]) rfl ⟨rfl,H2.out.2.2.setRow (.inr (Nat.le_refl _)) _⟩
end
end Go.Proofs.YtmeglndnkdgkoaaGreat.Store
namespace Go.Proofs.YtmeglndnkdgkoaaGreat.Store
open Go.RowKit Go.Proofs.YtmeglndnkdgkoaaGreat.ShaW Go.Proofs.YtmeglndnkdgkoaaGreat.Path
section
variable {w0 w w' : World} {b : Nat} {σ : SlabSt Nd} {F G : Nat → Prop}
theorem ROw.keyLeaf (h:ROw w0 w b σ G) (GG:Good σ) {n:Int} (hk:(nd σ n).kind = 1):Calls Tryz.prog 153 #[.pointer (some ⟨b,0,none⟩),.int .i64 n] w fun e w' => e = .returned (.agg (brow (nd σ n).key)) ∧ Adds w w':=by
 obtain ⟨ρ,F,h1,L,_⟩:=h
 exact RKey_leaf h1 L GG hk
theorem ROw.value (h:ROw w0 w b σ G) (GG:Good σ) (n:Int):Calls Tryz.prog 156 #[.pointer (some ⟨b,0,none⟩),.int .i64 n] w fun e w' => ∃ v,e = .returned v ∧ Bytes w' v (nd σ n).value ∧ (∀ k,v.ownBlock = some k → w0.heap.size ≤ k ∧ ¬ G k) ∧ Adds w w':=by
 obtain ⟨ρ,F,h1,L,h2,h3,h4⟩:=h
 exact (RValue_ok h1 L GG n).mono fun e w' ⟨v,he,hb,hv,a⟩ => ⟨v,he,hb,fun k hk => ⟨h2 k (hv k hk),fun hg => (h4 k hg).1 (hv k hk)⟩,a⟩
theorem Way_ok (h:ROw w0 w b σ G) (GG:Good σ) (root:Int) (key:List UInt8) (hk:key.length = 32) {l:List Int} {e1:Int} (ho:On (sk σ) key root 0 l e1) :
 Calls Tryz.prog 86 #[.pointer (some ⟨b,0,none⟩),.int .i64 root,.agg (brow key)] w fun e w' => ∃ v,e = .returned (.tuple #[v,.int .i64 e1]) ∧ w'.ownsRow w.heap.size 3 1 v l.length (hl l) ∧ Adds w w':=by
 obtain ⟨i0,hi,hz0,hz1,hz2⟩:=SlabN.int_info
 have HI:=(hIq hi (aIq hz0 (aIq hz1 hz2)))
 have hlen:l.length ≤ 256:=by have:=ho.len GG.fit (by omega); omega
 have hbit:=fun d w1 => RBit_ok key hk d w1
 obtain ⟨K,hK⟩:∃ K,K = brow key:=⟨_,rfl⟩
 have hKs:K.size = 32:=by rw [hK,brow_size,hk]
 rw [← hK] at hbit ⊢
 have hsd:=fun w1 (a:Adds w w1) n => (h.adds a).sides GG n
 have hkd:=fun w1 (a:Adds w w1) n => (h.adds a).kind GG n
 have HO:=Lib.hid ho
 have HB:=Lib.hid hbit
 have SD:=Lib.hid hsd
 have KD:=Lib.hid hkd
 have HG:=Lib.hid GG
 have HK:=Lib.hid hKs
 have a0:Adds w (w.alloc (.cells K 31)):=(Ch.refl _ w).alloc _
 have A0:=Lib.hid a0
 clear ho hbit hsd hK h GG hkd hi hz0 hz1 hz2 hKs a0
 go_enter Tryz.func86,Tryz.ntmps86
 go_wp2
 go_loopg [8,9,10,11] l.length (fun g s8 s9 s10 s11 wr => ∃ (acc rest:List Int) (h1:Int),l = acc ++ rest ∧ g = rest.length ∧ s9 = .int .i64 h1 ∧ On (sk σ) key h1 acc.length rest e1 ∧
  wr.ownsRow (w.heap.size + 1) 3 1 s8 acc.length (hl acc) ∧ Adds w wr ∧ wr.heap[w.heap.size]? = some (.cells K 31 (0,0)))
 case atStart => exact ⟨[],l,root,rfl,rfl,rfl,HO.out,World.ownsRow_nil _ _ _ _,A0.out,heap_alloc_new _ _⟩
 obtain ⟨acc,rest,h1,hl1,rfl,rfl,hon,hown,hA,hbx⟩:=hrel
 have hsz:=hA.size
 have hacc:acc.length + rest.length = l.length:=by rw [hl1,List.length_append]
 obtain ⟨ao,cap,rfl⟩:=owns_form hown
 have HL:=(hIq hl1 (aIq hown (aIq hA hbx)))
 clear hl1 hown hA hbx
 have hkind:=KD.out _ HL.out.2.2.1 h1
 cases hon with
 | stop h0 =>
  have hk2:(nd σ e1).kind ≠ 2:=by
   rcases h0 with rfl | ⟨n,hn,hk2⟩
   · show (0:Nat) ≠ 2; decide
   rw [(has_sk hn).2.1]; exact hk2
  obtain ⟨kd,hkd⟩:∃ x,x = (nd σ e1).kind:=⟨_,rfl⟩
  rw [← hkd] at hk2 hkind
  have hk2':¬ ((kd:Int) = 2):=by omega
  have KI:=Lib.hid hkind
  clear hkind hkd h0
  go_wp2_with fail
  refine KI.out.mono ?_; rintro e w3 ⟨rfl,a3⟩
  have H3:=Lib.hid a3
  clear a3
  go_wp2
  go_ret2
  refine ⟨_,rfl,?_,HL.out.2.2.1.trans H3.out (fun _ => fEq)⟩
  have:=(H3.out.owns HL.out.2.1 (fun _ _ h => h)).base (b':=w.heap.size) (fun k hk => Nat.le_trans (Nat.le_succ _) ((HL.out.2.1).lt k hk).1)
  rw [HL.out.1,List.append_nil]
  exact this
 | @step _ _ n l2 _ hn hk2 hd hr2 =>
  have hx:=has_sk hn
  have hd1:=(HG.out.fit.inner hn hk2).d1
  rw [hd] at hd1
  have hbe:bit key (acc.length:Nat) = (kbit key acc.length:Nat):=bit_in (by omega)
  have hsid:=SD.out
  have hss:=fun w1 (a:Adds w w1) => SD.out w1 a h1
  rw [hx.2.2.2.1,hx.2.2.2.2.1] at hss
  have hbb:=fun w1 => HB.out (acc.length:Nat) w1
  obtain ⟨bt,hbt⟩:∃ x,x = bit key (acc.length:Nat):=⟨_,rfl⟩
  rw [← hbt] at hbb hbe
  obtain ⟨lf,hlf⟩:∃ x,x = n.left:=⟨_,rfl⟩
  obtain ⟨rg,hrg⟩:∃ x,x = n.right:=⟨_,rfl⟩
  rw [← hlf, ← hrg] at hss hr2
  rw [show (nd σ h1).kind = 2 by rw [hx.2.1]; exact hk2] at hkind
  have KI:=Lib.hid hkind
  have HS:=Lib.hid hss
  have HBB:=Lib.hid hbb
  have hrl:l2.length + 1 = (h1 :: l2).length:=rfl
  have hacc':acc.length ≤ 256:=by omega
  have HR:=Lib.hid hr2
  have HBE:=Lib.hid hbe
  obtain ⟨na,hna⟩:∃ x,x = acc.length:=⟨_,rfl⟩
  have hw1:IntKind.i64.wrap ((na:Int) + 1 - 1) = (na:Int):=by rw [show (na:Int) + 1 - 1 = na by omega]; exact IntWalk.i64_in _ (by omega)
  have HNA:=Lib.hid hna
  rw [← hna] at HBB HL hacc' hacc ⊢
  clear hkind hn hk2 hd hx hd1 hbe hbt hlf hrg hr2 hsid hss hbb hna
  go_wp2_with fail
  refine KI.out.mono ?_; rintro e w3 ⟨rfl,a3⟩
  have o3:=a3.owns HL.out.2.1 (fun _ _ h => h)
  have b3:=a3.row HL.out.2.2.2 id
  have A3:=HL.out.2.2.1.trans a3 (fun _ => fEq)
  have H3:=(hIq o3 (aIq b3 A3))
  clear a3 o3 b3 A3
  go_wp2_with fail
  refine (HS.out _ H3.out.2.2).mono ?_; rintro e w4 ⟨rfl,a4⟩
  have o4:=a4.owns H3.out.1 (fun _ _ h => h)
  have b4:=a4.row H3.out.2.1 id
  have A4:=H3.out.2.2.trans a4 (fun _ => fEq)
  have s4:=A4.size
  have H4:=(hIq o4 (aIq b4 A4))
  have s4':=row_lt b4
  clear a4 o4 b4 A4 H3
  go_wp2_with (first
   | fail
   | (at_builtin; refine wpList_append_own_at _ rfl _ _ 43 rfl (w.heap.size + 1) 3 i0 (.int .i64 0) 1 8 Tryz.underlying43 HI.out.1 HI.out.2.1 HI.out.2.2.1 HI.out.2.2.2 rfl (by decide) (.slice ao na cap) _ _ rfl (H4.out.1.alloc _) ⟨w4.heap.size,0,none⟩ 1 1 [.int .i64 h1] rfl rfl (cell_one_new _ _ _) (by simp [Value.oneCell']) (by unfold maxLen; omega) (by omega) (by simp; omega) ?_; intro v' w5 hown' hgrow hnil hloc; have hg5:=((Ch.refl (fun j => Value.ownBlock (.slice ao na cap) = some j) w4).alloc _).grown hgrow (fun j hj => .inl hj); have HN5:=(hIq hown' (aIq (H4.out.2.2.trans hg5 (fun j hj => .inr (Nat.le_trans (Nat.le_succ _) (H4.out.1.lt j hj).1))) (hg5.row H4.out.2.1 (fun hj => Nat.lt_irrefl _ (H4.out.1.lt _ hj).1)))); obtain ⟨ro,rc,rfl⟩:=owns_form hown'; clear hown' hgrow hnil hloc hg5)
   | ((with_reducible show zOq (.load 31 _)); refine wpList_load_part rfl 31 _ rfl w.heap.size 0 rfl HN5.out.2.2 Tryz.underlying31 rfl sizeP (by rw [HK.out]; omega) K (by simp [← HK.out]) ?_))
  refine (HBB.out _).mono ?_; rintro e w6 ⟨rfl,a6⟩
  have H6:=(hIq (a6.owns HN5.out.1 (fun _ _ h => h)) (aIq (HN5.out.2.1.trans a6 (fun _ => fEq)) (a6.row HN5.out.2.2 id)))
  clear a6
  by_cases hb1:bt = 1
  · have hr2:On (sk σ) key rg (na + 1) l2 e1:=by
     have:=HR.out
     rw [if_neg (by have:=HBE.out; omega), ← HNA.out] at this
     exact this
    have HR2:=Lib.hid hr2
    clear hr2
    go_wp2
    go_roundg l2.length
    case measure => simp
    exact ⟨acc ++ [h1],l2,rg,by rw [HL.out.1]; simp,rfl,rfl,by rw [List.length_append, ← HNA.out]; exact HR2.out,by rw [List.length_append, ← HNA.out]; simpa [hl] using H6.out.1,H6.out.2.1,H6.out.2.2⟩
  have hr2:On (sk σ) key lf (na + 1) l2 e1:=by
   have:=HR.out
   have hkb:=kbit_cases key acc.length
   rw [if_pos (by have:=HBE.out; omega), ← HNA.out] at this
   exact this
  have HR2:=Lib.hid hr2
  clear hr2
  go_wp2
  go_roundg l2.length
  case measure => simp
  exact ⟨acc ++ [h1],l2,lf,by rw [HL.out.1]; simp,rfl,rfl,by rw [List.length_append, ← HNA.out]; exact HR2.out,by rw [List.length_append, ← HNA.out]; simpa [hl] using H6.out.1,H6.out.2.1,H6.out.2.2⟩
theorem wrong9_long (h:ROw w0 w b σ G) (root:Int) (ao:Option Addr) (len cap:Nat) (hl:1024 < len):Calls Tryz.prog 163 #[.pointer (some ⟨b,0,none⟩),.int .i64 root,.slice ao len cap] w fun e w' => e = .returned (.int .i64 4) ∧ Adds w w':=by
 have HN:=Lib.hid h.isNo
 clear h
 go_enter Tryz.func163,Tryz.ntmps163
 go_wp2_with fail
 refine HN.out.mono ?_; rintro e w1 ⟨rfl,rfl⟩
 go_wp2
 go_ret
 exact ⟨rfl,Ch.refl _ _⟩
theorem wrong9_hand (h:ROw w0 w b σ G) (GG:Good σ) (root:Int) (ao:Option Addr) (len cap:Nat) (hl:len ≤ 1024):Calls Tryz.prog 163 #[.pointer (some ⟨b,0,none⟩),.int .i64 root,.slice ao len cap] w fun e w' => e = .returned (.int .i64 (atHand σ root)) ∧ Adds w w':=by
 have HN:=Lib.hid h.isNo
 have HA:=Lib.hid (R9AtHand_ok h GG root)
 clear h GG
 go_enter Tryz.func163,Tryz.ntmps163
 go_wp2_with fail
 refine HN.out.mono ?_; rintro e w1 ⟨rfl,rfl⟩
 go_wp2_with fail
 refine HA.out.mono ?_; rintro e w1 ⟨rfl,a1⟩
 go_wp2
 go_ret
 exact ⟨rfl,a1⟩
theorem there_ok (h:ROw w0 w b σ G) (GG:Good σ) (e1:Int) (key:List UInt8) (hk:key.length = 32) {vv:Value} {bs:List UInt8} (hb:Bytes w vv bs) :
 Calls Tryz.prog 164 #[.pointer (some ⟨b,0,none⟩),.int .i64 e1,.agg (brow key),vv] w fun e w' => e = .returned (.bool (sameS σ key bs e1)) ∧ Adds w w':=by
 obtain ⟨ao,cap,hvv,_⟩:=hb.form
 have hkd:=fun w1 (a:Adds w w1) => (h.adds a).kind GG e1
 have hky:=fun w1 (a:Adds w w1) (hk1:(nd σ e1).kind = 1) => (h.adds a).keyLeaf GG hk1
 have hvl:=fun w1 (a:Adds w w1) => (h.adds a).value GG e1
 unfold sameS
 obtain ⟨K,hK⟩:∃ K,K = brow key:=⟨_,rfl⟩
 have hKs:K.size = 32:=by rw [hK,brow_size,hk]
 rw [← hK]
 have HK:=Lib.hid hKs
 have HB:=Lib.hid hb
 by_cases hk1:(nd σ e1).kind = 1
 · have hkl:(nd σ e1).key.length = 32:=by
    cases hx:σ.get? e1 with
    | none => rw [nd_none hx] at hk1; exact absurd (show (0:Nat) = 1 from hk1) (by decide)
    | some x => rw [nd_some hx]; exact (GG.fit.all _ _ (sk_some hx)).key
   have heq:=eql_keys 31 Tryz.underlying31 (nd σ e1).key key hkl hk
   obtain ⟨ek,hek⟩:∃ x,x = decide ((nd σ e1).key = key):=⟨_,rfl⟩
   obtain ⟨K2,hK2⟩:∃ K2,K2 = brow (nd σ e1).key:=⟨_,rfl⟩
   obtain ⟨vl,hvl'⟩:∃ x,x = (nd σ e1).value:=⟨_,rfl⟩
   have hky:=fun w1 (a:Adds w w1) => hky w1 a hk1
   rw [← hK, ← hK2, ← hek] at heq
   rw [← hK2] at hky
   rw [← hvl'] at hvl
   rw [hk1] at hkd
   rw [← hek, ← hvl',hk1]
   have HQ:=Lib.hid heq
   have HY:=Lib.hid hky
   have HV:=Lib.hid hvl
   have KD:=Lib.hid hkd
   have e1':(((1:Nat):Int) == 1) = true:=rfl
   clear heq hky hvl hkd hKs hb hK hK2 hek hvl' hkl h GG hk1
   subst hvv
   cases ek with
   | false =>
    go_enter Tryz.func164,Tryz.ntmps164
    go_wp2
    refine wp_region_plan (fun wz => wz.heap[w.heap.size]? = some (.cells K 31 (0,0)) ∧ Adds w wz) 20 [(0,false),(1,false),(2,true),(3,false),(4,false),(5,false),(6,false),(8,false),(7,true),(9,false),(10,false),(11,false),(12,false),(13,false),(16,false),(17,false),(14,false),(15,false),(18,false),(19,false)] (by kernel_rfl) (by kernel_rfl) ?_ ?_
    · exact ⟨row_drew (heap_alloc_new _ _),((Ch.refl _ w).alloc _).drew⟩
    iterate 2
     iterate 1 refine plan_look rfl rfl (fun w0 hS => (by go_simp; try rfl)) ?_
     simp only [Act.put,nAq,nBq,nCq]
    refine plan_do rfl ?_
    go_wp2_with fail
    refine (KD.out _ (((Ch.refl _ w).alloc _).drew)).mono ?_; rintro e w2 ⟨rfl,a2⟩
    have H2:=(hIq (a2.row (row_drew (heap_alloc_new w (.cells K 31))) id) ((((Ch.refl (fun _ => False) w).alloc (.cells K 31)).drew).trans a2 (fun _ => fEq)))
    clear a2
    dsimp only
    go_step
    refine wpList_nil ?_
    change _ ∧ _
    refine ⟨H2.out,?_⟩
    iterate 4
     refine plan_look rfl rfl (fun w0 hS => (by clear hS; go_simp; try rfl)) ?_
     simp only [Act.put,nAq,nBq,nCq]
    refine plan_gload_part (cur:=K) (t:=31) (fr:=(0,0)) rfl rfl 31 (.tmp 6) rfl w.heap.size 0 32 rfl (fun w0 hS => hS.1) Tryz.underlying31 rfl sizeP (by rw [HK.out]; omega) K (by simp [← HK.out]) ?_
    simp only [Act.put,nAq,nBq,nCq]
    refine plan_do rfl ?_
    go_wp2_with fail
    refine (HY.out _ H2.out.2).mono ?_; rintro e w3 ⟨rfl,a3⟩
    have H3:=(hIq (a3.row H2.out.1 id) (H2.out.2.trans a3 (fun _ => fEq)))
    clear a3
    dsimp only
    go_step
    refine wpList_nil ?_
    change _ ∧ _
    refine ⟨H3.out,?_⟩
    refine plan_look (v:=.bool false) rfl rfl (fun w0 hS => (by have hq:=HQ.out w0; rw [run_eql_struct] at hq; clear hS; go_simp)) ?_
    simp only [Act.put,nAq,nBq,nCq]
    iterate 2
     refine plan_look (v:=.bool false) rfl rfl (fun w0 hS => (by clear hS; go_simp; try rfl)) ?_
     simp only [Act.put,nAq,nBq,nCq]
    iterate 6
     refine plan_skip rfl (by rfl) ?_
     simp only [Act.put,nAq,nBq,nCq]
    refine plan_skip rfl (by rfl) ?_
    simp only [Act.put,nAq,nBq,nCq]
    refine plan_look (v:=.bool false) rfl rfl (fun w0 hS => (by clear hS; go_simp; try rfl)) ?_
    simp only [Act.put,nAq,nBq,nCq]
    refine plan_end ?_; simp only [List.drop_succ_cons,List.drop_zero]
    go_wp2
    refine NoPanic.normal ?_
    go_wp2
    go_ret
    exact ⟨rfl,H3.out.2⟩
   | true =>
    go_enter Tryz.func164,Tryz.ntmps164
    go_wp2
    refine wp_region_plan (fun wz => wz.heap[w.heap.size]? = some (.cells K 31 (0,0)) ∧ Adds w wz) 20 [(0,false),(1,false),(2,true),(3,false),(4,false),(5,false),(6,false),(8,false),(7,true),(9,false),(10,false),(11,false),(12,false),(13,false),(16,false),(17,false),(14,true),(15,true),(18,false),(19,false)] (by kernel_rfl) (by kernel_rfl) ?_ ?_
    · exact ⟨row_drew (heap_alloc_new _ _),((Ch.refl _ w).alloc _).drew⟩
    iterate 2
     iterate 1 refine plan_look rfl rfl (fun w0 hS => (by go_simp; try rfl)) ?_
     simp only [Act.put,nAq,nBq,nCq]
    refine plan_do rfl ?_
    go_wp2_with fail
    refine (KD.out _ (((Ch.refl _ w).alloc _).drew)).mono ?_; rintro e w2 ⟨rfl,a2⟩
    have H2:=(hIq (a2.row (row_drew (heap_alloc_new w (.cells K 31))) id) ((((Ch.refl (fun _ => False) w).alloc (.cells K 31)).drew).trans a2 (fun _ => fEq)))
    clear a2
    dsimp only
    go_step
    refine wpList_nil ?_
    change _ ∧ _
    refine ⟨H2.out,?_⟩
    iterate 4
     refine plan_look rfl rfl (fun w0 hS => (by clear hS; go_simp; try rfl)) ?_
     simp only [Act.put,nAq,nBq,nCq]
    refine plan_gload_part (cur:=K) (t:=31) (fr:=(0,0)) rfl rfl 31 (.tmp 6) rfl w.heap.size 0 32 rfl (fun w0 hS => hS.1) Tryz.underlying31 rfl sizeP (by rw [HK.out]; omega) K (by simp [← HK.out]) ?_
    simp only [Act.put,nAq,nBq,nCq]
    refine plan_do rfl ?_
    go_wp2_with fail
    refine (HY.out _ H2.out.2).mono ?_; rintro e w3 ⟨rfl,a3⟩
    have H3:=(hIq (a3.row H2.out.1 id) (H2.out.2.trans a3 (fun _ => fEq)))
    clear a3
    dsimp only
    go_step
    refine wpList_nil ?_
    change _ ∧ _
    refine ⟨H3.out,?_⟩
    refine plan_look (v:=.bool true) rfl rfl (fun w0 hS => (by have hq:=HQ.out w0; rw [run_eql_struct] at hq; clear hS; go_simp)) ?_
    simp only [Act.put,nAq,nBq,nCq]
    iterate 2
     refine plan_look (v:=.bool true) rfl rfl (fun w0 hS => (by clear hS; go_simp; try rfl)) ?_
     simp only [Act.put,nAq,nBq,nCq]
    obtain ⟨same,hsame⟩:∃ x,x = decide (vl = bs):=⟨_,rfl⟩
    have HSM:=Lib.hid hsame
    clear hsame
    iterate 3
     refine plan_look rfl rfl (fun w0 hS => (by clear hS; go_simp; try rfl)) ?_
     simp only [Act.put,nAq,nBq,nCq]
    refine plan_convert rfl rfl 32 9 (.tmp 25) (.string (bstr bs)) rfl (.slice ao bs.length cap) rfl (fun w0 hS => conv_bytes (HB.out.keep hS.2 (fun _ _ h => h))) ?_
    simp only [Act.put,nAq,nBq,nCq]
    refine plan_do rfl ?_
    go_wp2_with fail
    refine (HV.out _ H3.out.2).mono ?_; rintro e w4 ⟨v4,rfl,hb4,_,a4⟩
    have H4:=(hIq (a4.row H3.out.1 id) (H3.out.2.trans a4 (fun _ => fEq)))
    have hc4:=conv_bytes hb4
    clear a4 hb4
    dsimp only
    go_step
    refine wpList_nil ?_
    change _ ∧ _
    refine ⟨H4.out,?_⟩
    refine plan_do rfl ?_
    go_wp2
    refine ⟨H4.out,?_⟩
    refine plan_look (v:=.bool same) rfl rfl (fun w0 hS => (by clear hS; go_simp; rw [HSM.out]; exact bstr_eq vl bs)) ?_
    simp only [Act.put,nAq,nBq,nCq]
    refine plan_look (v:=.bool same) rfl rfl (fun w0 hS => (by clear hS; go_simp; try rfl)) ?_
    simp only [Act.put,nAq,nBq,nCq]
    refine plan_end ?_; simp only [List.drop_succ_cons,List.drop_zero]
    go_wp2
    refine NoPanic.normal ?_
    go_wp2
    go_ret
    refine ⟨?_,H4.out.2⟩
    rw [HSM.out]
    rfl
 obtain ⟨kd,hkd'⟩:∃ x,x = (nd σ e1).kind:=⟨_,rfl⟩
 rw [← hkd'] at hkd hk1 ⊢
 have KD:=Lib.hid hkd
 have e1':((kd:Int) == 1) = false:=by simpa using (show ¬ (kd:Int) = 1 by omega)
 have e2':decide ((kd:Int) = 1) = false:=decide_eq_false (by omega)
 rw [decide_eq_false hk1,Bool.false_and]
 clear hky hvl hkd hKs hb hK hkd' h GG hk1
 subst hvv
 go_enter Tryz.func164,Tryz.ntmps164
 go_wp2
 refine wp_region_plan (fun wz => wz.heap[w.heap.size]? = some (.cells K 31 (0,0)) ∧ Adds w wz) 20 [(0,false),(1,false),(2,true),(3,false),(4,false),(5,false),(6,false),(7,false),(8,false),(9,false),(10,false),(11,false),(12,false),(13,false),(14,false),(15,false),(16,false),(17,false),(18,false),(19,false)] (by kernel_rfl) (by kernel_rfl) ?_ ?_
 · exact ⟨row_drew (heap_alloc_new _ _),((Ch.refl _ w).alloc _).drew⟩
 iterate 2
  iterate 1 refine plan_look rfl rfl (fun w0 hS => (by go_simp; try rfl)) ?_
  simp only [Act.put,nAq,nBq,nCq]
 refine plan_do rfl ?_
 go_wp2_with fail
 refine (KD.out _ (((Ch.refl _ w).alloc _).drew)).mono ?_; rintro e w2 ⟨rfl,a2⟩
 have H2:=(hIq (a2.row (row_drew (heap_alloc_new w (.cells K 31))) id) ((((Ch.refl (fun _ => False) w).alloc (.cells K 31)).drew).trans a2 (fun _ => fEq)))
 clear a2
 dsimp only
 go_step
 refine wpList_nil ?_
 change _ ∧ _
 refine ⟨H2.out,?_⟩
 iterate 2
  refine plan_look (v:=.bool false) rfl rfl (fun w0 hS => (by clear hS; go_simp; try rfl)) ?_
  simp only [Act.put,nAq,nBq,nCq]
 iterate 5
  refine plan_skip rfl (by rfl) ?_
  simp only [Act.put,nAq,nBq,nCq]
 iterate 2
  refine plan_look (v:=.bool false) rfl rfl (fun w0 hS => (by clear hS; go_simp; try rfl)) ?_
  simp only [Act.put,nAq,nBq,nCq]
 iterate 7
  refine plan_skip rfl (by rfl) ?_
  simp only [Act.put,nAq,nBq,nCq]
 refine plan_look (v:=.bool false) rfl rfl (fun w0 hS => (by clear hS; go_simp; try rfl)) ?_
 simp only [Act.put,nAq,nBq,nCq]
 refine plan_end ?_; simp only [List.drop_succ_cons,List.drop_zero]
 go_wp2
 refine NoPanic.normal ?_
 go_wp2
 go_ret
 exact ⟨rfl,H2.out.2⟩
end
end Go.Proofs.YtmeglndnkdgkoaaGreat.Store
