/- Proved contracts and plain laws of the layers below, in one text. -/
import Derived.Test.YtmeglndnkdgkoaaGreatQd37
set_option maxHeartbeats 3200000
set_option maxRecDepth 100000
set_option linter.unusedVariables false
namespace Go.Proofs.YtmeglndnkdgkoaaGreat.Store
open Go Go.RowKit Go.Proofs.YtmeglndnkdgkoaaGreat Go.Proofs.YtmeglndnkdgkoaaGreat.ShaW Go.Proofs.YtmeglndnkdgkoaaGreat.Path Go.Proofs.YtmeglndnkdgkoaaGreat.Law9
section
variable {w0 w w' : World} {c s b n i : Nat} {σ τ σ' : SlabSt Nd} {root : Int} {aside : List Int} {L : Ents} {A : List (Int × Ents)} {G : Nat → Prop} {key : List UInt8}
theorem drop_impl (h:ScAt w0 w c s b σ τ root aside G) (GG:Good σ) (r:Int) (hk:key.length = 32) :
 Calls Tryz.prog 26 #[.pointer (some ⟨s,0,none⟩),.int .i64 r,.agg (brow key)] w fun e w' => ∃ σ',(∃ x g,e = .returned (.tuple #[.int .i64 x,.bool g,.int .i64 (dropErr σ r)]) ∧ DropTo σ r key x g σ') ∧ ScAt w0 w' c s b σ' τ root aside G ∧ But G w w' :=
 h.impl (P:=fun e σ' => ∃ x g,e = .returned (.tuple #[.int .i64 x,.bool g,.int .i64 (dropErr σ r)]) ∧ DropTo σ r key x g σ') (fun G' ho => (Drop_any ho GG r hk).mono fun e w' ⟨x,g,σ',he,hd,ho',hb'⟩ => ⟨σ',⟨x,g,he,hd⟩,ho',hb'⟩)
theorem drop_refr (h:ScAt w0 w c s b τ σ root aside G) (GG:Good σ) (r:Int) (hk:key.length = 32) (htot:total σ + 1000 < 1073741824) {x:Int} {g:Bool} (hP:DropTo σ r key x g σ') :
 Calls Tryz.prog 27 #[.pointer (some ⟨b,0,none⟩),.int .i64 r,.agg (brow key)] w fun e w' => e = .returned (.tuple #[.int .i64 x,.bool g,.int .i64 (dropErr σ r)]) ∧ ScAt w0 w' c s b τ σ' root aside G ∧ But G w w' :=
 (h.refr (P:=fun e τ' => e = .returned (.tuple #[.int .i64 x,.bool g,.int .i64 (dropErr σ r)]) ∧ τ' = σ') (fun G' ho => (Drop10_any ho GG r hk htot hP).mono fun e w' ⟨he,ho',hb'⟩ => ⟨σ',⟨he,rfl⟩,ho',hb'⟩)).mono fun e w' ⟨τ',⟨he,ht⟩,hS,hb⟩ => ⟨he,ht ▸ hS,hb⟩
theorem act10_drop (h:ScAt w0 w c s b σ σ root (firsts A) G) (P:Sce σ root L A n i) (hi:i ≤ 16) (x:Act9) (hx:x.Good w0) (hk:x.kind = 7) :
 Calls Tryz.prog 82 #[.pointer (some ⟨c,0,none⟩),.agg x.cells] w fun e w' => DoRet w0 w' c s b n i G e:=by
 unfold DoRet
 have q0:=Act9.at_kind (x:=x)
 have q1:=Act9.at_key (x:=x) hx.key
 have qs:=Act9.size hx.key
 have hkl:=hx.key
 have a0:Adds w (w.alloc (.cells x.cells 47)):=(Ch.refl (fun _ => False) w).alloc _
 have h1:ScAt w0 (w.alloc (.cells x.cells 47)) c s b σ σ root (firsts A) (fun k => G k ∨ k = w.heap.size):=h.more a0 (fun k hk => by
  rcases hk with hk | rfl
  · exact .inl hk
  exact .inr ⟨Nat.le_refl _,by simp⟩)
 have GG:=P.roots.good
 have htot:total σ + 1000 < 1073741824:=by have:=P.tot; omega
 have hd1:=drop_impl (h1.adds (Ch.refl (fun _ => False) _).drew) GG root hkl
 have hd2:=fun (w1:World) (τ:SlabSt Nd) (x':Int) (g:Bool) (σ':SlabSt Nd) (h2:ScAt w0 w1 c s b τ σ root (firsts A) (fun k => G k ∨ k = w.heap.size)) (hP:DropTo σ root x.key x' g σ') => drop_refr h2 GG root hkl htot hP
 obtain ⟨X,hX⟩:∃ X,X = x.cells:=⟨_,rfl⟩
 obtain ⟨er,her⟩:∃ er,er = dropErr σ root:=⟨_,rfl⟩
 obtain ⟨K,hK⟩:∃ K,K = brow x.key:=⟨_,rfl⟩
 rw [hk, ← hX] at q0
 rw [← hX] at qs a0 hd1 h1
 rw [← her, ← hK] at hd1 hd2
 rw [← hX, ← hK] at q1
 rw [← hX]
 obtain ⟨aa,ac,hr,_⟩:=h1.row
 have HP:=(hIq P (aIq hi (aIq hkl her)))
 have HD1:=Lib.hid hd1
 have HD2:=Lib.hid hd2
 have HX:=(hIq qs q1)
 have H0:=(hIq hr (heap_alloc_new w (.cells X 47)))
 have ck:=row_cell (heap_alloc_new w (.cells X 47)) q0
 have cr:=row_cell hr (i:=2) (v:=.int .i64 root) rfl
 clear h h1 P q0 q1 qs hX hk hx a0 hd1 hd2 hr hi hkl her hK GG htot
 go_enter Tryz.func82,Tryz.ntmps82
 go_wp2
 refine wp_region_plan (fun wz => (∃ va,wz.heap[c]? = some (.cells #[.pointer (some ⟨s,0,none⟩),.pointer (some ⟨b,0,none⟩),.int .i64 root,va] 45 (0,0))) ∧ wz.heap[w.heap.size]? = some (.cells X 47 (0,0))) 15 [(0,false),(1,false),(2,false),(3,false),(4,false),(5,false),(6,false),(7,true),(8,false),(9,false),(10,false),(11,false),(12,false),(13,false),(14,false)] (by kernel_rfl) (by kernel_rfl) ?_ ?_
 · exact ⟨⟨_,row_drew H0.out.1⟩,row_drew H0.out.2⟩
 iterate 3
  refine plan_look rfl rfl (fun w0 hS => (by clear hS; go_simp; try rfl)) ?_
  simp only [Act.put,nAq,nBq,nCq]
 refine plan_look (v:=.pointer (some ⟨s,0,none⟩)) rfl rfl (fun w0 hS => (by obtain ⟨⟨va,hva⟩,_⟩:=hS; have c1:=row_cell hva (i:=0) (v:=.pointer (some ⟨s,0,none⟩)) rfl; clear hva; go_simp; try rfl)) ?_
 simp only [Act.put,nAq,nBq,nCq]
 iterate 2
  refine plan_look rfl rfl (fun w0 hS => (by clear hS; go_simp; try rfl)) ?_
  simp only [Act.put,nAq,nBq,nCq]
 refine plan_load_part (cur:=X) (t:=47) (fr:=(0,0)) rfl rfl 31 (.tmp 30) rfl w.heap.size 1 32 rfl (fun w0 hS => hS.2) Tryz.underlying31 rfl sizeP (by rw [HX.out.1]; omega) K HX.out.2 ?_
 simp only [Act.put,nAq,nBq,nCq]
 refine plan_do rfl ?_
 go_wp2_with fail
 refine HD1.out.mono ?_; rintro e w2 ⟨σ1,⟨y,g,rfl,hp⟩,S2,B2⟩
 obtain ⟨aa2,ac2,hr2,_⟩:=S2.row
 have hx2:=B2.row (row_drew H0.out.2) (.inr rfl)
 have H2:=(hIq S2 (aIq hp (aIq hr2 hx2)))
 clear S2 B2 hp hr2 hx2
 dsimp only
 go_step
 refine wpList_nil ?_
 change _ ∧ _
 refine ⟨⟨⟨_,H2.out.2.2.1⟩,H2.out.2.2.2⟩,?_⟩
 iterate 7
  refine plan_look rfl rfl (fun w0 hS => (by clear hS; go_simp; try rfl)) ?_
  simp only [Act.put,nAq,nBq,nCq]
 refine plan_end ?_; simp only [List.drop_succ_cons,List.drop_zero]
 go_wp2
 refine NoPanic.normal ?_
 go_wp2
 refine wp_region_plan (fun wz => (∃ va,wz.heap[c]? = some (.cells #[.pointer (some ⟨s,0,none⟩),.pointer (some ⟨b,0,none⟩),.int .i64 root,va] 45 (0,0))) ∧ wz.heap[w.heap.size]? = some (.cells X 47 (0,0))) 15 [(0,false),(1,false),(2,false),(3,false),(4,false),(5,false),(6,false),(7,true),(8,false),(9,false),(10,false),(11,false),(12,false),(13,false),(14,false)] (by kernel_rfl) (by kernel_rfl) ?_ ?_
 · exact ⟨⟨_,row_drew H2.out.2.2.1⟩,row_drew H2.out.2.2.2⟩
 iterate 3
  refine plan_look rfl rfl (fun w0 hS => (by clear hS; go_simp; try rfl)) ?_
  simp only [Act.put,nAq,nBq,nCq]
 refine plan_look (v:=.pointer (some ⟨b,0,none⟩)) rfl rfl (fun w0 hS => (by obtain ⟨⟨va,hva⟩,_⟩:=hS; have c1:=row_cell hva (i:=1) (v:=.pointer (some ⟨b,0,none⟩)) rfl; clear hva; go_simp; try rfl)) ?_
 simp only [Act.put,nAq,nBq,nCq]
 iterate 2
  refine plan_look rfl rfl (fun w0 hS => (by clear hS; go_simp; try rfl)) ?_
  simp only [Act.put,nAq,nBq,nCq]
 refine plan_load_part (cur:=X) (t:=47) (fr:=(0,0)) rfl rfl 31 (.tmp 42) rfl w.heap.size 1 32 rfl (fun w0 hS => hS.2) Tryz.underlying31 rfl sizeP (by rw [HX.out.1]; omega) K HX.out.2 ?_
 simp only [Act.put,nAq,nBq,nCq]
 refine plan_do rfl ?_
 go_wp2_with fail
 refine (HD2.out _ _ _ _ _ (H2.out.1.adds (Ch.refl (fun _ => False) _).drew) H2.out.2.1).mono ?_; rintro e w3 ⟨rfl,S3,B3⟩
 obtain ⟨aa3,ac3,hr3,_⟩:=S3.row
 have hx3:=B3.row (row_drew H2.out.2.2.2) (.inr rfl)
 have H3:=(hIq S3 (aIq hr3 hx3))
 clear S3 B3 hr3 hx3
 dsimp only
 go_step
 refine wpList_nil ?_
 change _ ∧ _
 refine ⟨⟨⟨_,H3.out.2.1⟩,H3.out.2.2⟩,?_⟩
 iterate 7
  refine plan_look rfl rfl (fun w0 hS => (by clear hS; go_simp; try rfl)) ?_
  simp only [Act.put,nAq,nBq,nCq]
 refine plan_end ?_; simp only [List.drop_succ_cons,List.drop_zero]
 go_wp2
 refine NoPanic.normal ?_
 by_cases he:er = 0
 · have hP:=HP.out.1.dropKey HP.out.2.1 HP.out.2.2.1 H2.out.2.1 (by rw [← HP.out.2.2.2]; exact he)
   have hs2:=H3.out.1.setRoot y
   have HE:=(hIq hP (hs2.less (G':=G) (fun k hk => .inl hk)))
   have c2:=row_cell H3.out.2.1 (i:=2) rfl
   have f2:=row_free H3.out.2.1 2
   have l2:=row_lt H3.out.2.1
   clear hP hs2
   go_wp2
   go_ret
   exact ⟨rfl,_,_,_,_,HE.out.2,HE.out.1⟩
 have e2:=H2.out.2.1.same (by rw [← HP.out.2.2.2]; exact he)
 have hs2:=H3.out.1.less (G':=G) (fun k hk => .inl hk)
 rw [e2] at hs2
 have HE:=(hIq HP.out.1.next hs2)
 have he2:(er == 0) = false:=by simpa using he
 clear e2 hs2
 go_wp2
 go_ret
 exact ⟨rfl,_,_,_,_,HE.out.2,HE.out.1⟩
theorem act10_cost (h:ScAt w0 w c s b σ σ root (firsts A) G) (P:Sce σ root L A n i) (x:Act9) (hx:x.Good w0) (hk:x.kind = 9) :
 Calls Tryz.prog 82 #[.pointer (some ⟨c,0,none⟩),.agg x.cells] w fun e w' => DoRet w0 w' c s b n i G e:=by
 unfold DoRet
 have q0:=Act9.at_kind (x:=x)
 have q1:=Act9.at_key (x:=x) hx.key
 have qs:=Act9.size hx.key
 have hkl:=hx.key
 have a0:Adds w (w.alloc (.cells x.cells 47)):=(Ch.refl (fun _ => False) w).alloc _
 have h1:=h.adds a0
 have GG:=P.roots.good
 have hd1:=fun w1 (a:Adds w w1) => DCost_any (h.adds a).ow GG root hkl
 have hd2:=fun w1 (a:Adds w w1) (y:Int) (hC:DCostTo σ root x.key y) => DCost10_any (h.adds a).row9 GG root hkl hC
 obtain ⟨X,hX⟩:∃ X,X = x.cells:=⟨_,rfl⟩
 obtain ⟨er,her⟩:∃ er,er = atHand σ root:=⟨_,rfl⟩
 obtain ⟨K,hK⟩:∃ K,K = brow x.key:=⟨_,rfl⟩
 rw [hk, ← hX] at q0
 rw [← hX] at qs a0 h1
 rw [← her, ← hK] at hd1 hd2
 rw [← hX, ← hK] at q1
 rw [← hX]
 obtain ⟨aa,ac,hr,_⟩:=h1.row
 have HP:=(hIq P h)
 have HD1:=Lib.hid hd1
 have HD2:=Lib.hid hd2
 have HX:=(hIq qs q1)
 have H0:=(hIq hr (aIq (heap_alloc_new w (.cells X 47)) a0))
 have ck:=row_cell (heap_alloc_new w (.cells X 47)) q0
 have cr:=row_cell hr (i:=2) (v:=.int .i64 root) rfl
 clear h h1 P q0 q1 qs hX hk hx a0 hd1 hd2 hr hkl her hK GG
 go_enter Tryz.func82,Tryz.ntmps82
 go_wp2
 refine wp_region_plan (fun wz => (∃ va,wz.heap[c]? = some (.cells #[.pointer (some ⟨s,0,none⟩),.pointer (some ⟨b,0,none⟩),.int .i64 root,va] 45 (0,0))) ∧ wz.heap[w.heap.size]? = some (.cells X 47 (0,0))) 13 [(0,false),(1,false),(2,false),(3,false),(4,false),(5,false),(6,false),(7,true),(8,false),(9,false),(10,false),(11,false),(12,false)] (by kernel_rfl) (by kernel_rfl) ?_ ?_
 · exact ⟨⟨_,row_drew H0.out.1⟩,row_drew H0.out.2.1⟩
 iterate 3
  refine plan_look rfl rfl (fun w0 hS => (by clear hS; go_simp; try rfl)) ?_
  simp only [Act.put,nAq,nBq,nCq]
 refine plan_look (v:=.pointer (some ⟨s,0,none⟩)) rfl rfl (fun w0 hS => (by obtain ⟨⟨va,hva⟩,_⟩:=hS; have c1:=row_cell hva (i:=0) (v:=.pointer (some ⟨s,0,none⟩)) rfl; clear hva; go_simp; try rfl)) ?_
 simp only [Act.put,nAq,nBq,nCq]
 iterate 2
  refine plan_look rfl rfl (fun w0 hS => (by clear hS; go_simp; try rfl)) ?_
  simp only [Act.put,nAq,nBq,nCq]
 refine plan_load_part (cur:=X) (t:=47) (fr:=(0,0)) rfl rfl 31 (.tmp 75) rfl w.heap.size 1 32 rfl (fun w0 hS => hS.2) Tryz.underlying31 rfl sizeP (by rw [HX.out.1]; omega) K HX.out.2 ?_
 simp only [Act.put,nAq,nBq,nCq]
 refine plan_do rfl ?_
 go_wp2_with fail
 refine (HD1.out _ H0.out.2.2.drew).mono ?_; rintro e w2 ⟨y,rfl,hp,a2⟩
 have H2:=(hIq (a2.row (row_drew H0.out.1) id) (aIq (a2.row (row_drew H0.out.2.1) id) (aIq (H0.out.2.2.drew.trans a2 (fun _ => fEq)) hp)))
 clear a2 hp
 dsimp only
 go_step
 refine wpList_nil ?_
 change _ ∧ _
 refine ⟨⟨⟨_,H2.out.1⟩,H2.out.2.1⟩,?_⟩
 iterate 5
  refine plan_look rfl rfl (fun w0 hS => (by clear hS; go_simp; try rfl)) ?_
  simp only [Act.put,nAq,nBq,nCq]
 refine plan_end ?_; simp only [List.drop_succ_cons,List.drop_zero]
 go_wp2
 refine NoPanic.normal ?_
 go_wp2
 refine wp_region_plan (fun wz => (∃ va,wz.heap[c]? = some (.cells #[.pointer (some ⟨s,0,none⟩),.pointer (some ⟨b,0,none⟩),.int .i64 root,va] 45 (0,0))) ∧ wz.heap[w.heap.size]? = some (.cells X 47 (0,0))) 13 [(0,false),(1,false),(2,false),(3,false),(4,false),(5,false),(6,false),(7,true),(8,false),(9,false),(10,false),(11,false),(12,false)] (by kernel_rfl) (by kernel_rfl) ?_ ?_
 · exact ⟨⟨_,row_drew H2.out.1⟩,row_drew H2.out.2.1⟩
 iterate 3
  refine plan_look rfl rfl (fun w0 hS => (by clear hS; go_simp; try rfl)) ?_
  simp only [Act.put,nAq,nBq,nCq]
 refine plan_look (v:=.pointer (some ⟨b,0,none⟩)) rfl rfl (fun w0 hS => (by obtain ⟨⟨va,hva⟩,_⟩:=hS; have c1:=row_cell hva (i:=1) (v:=.pointer (some ⟨b,0,none⟩)) rfl; clear hva; go_simp; try rfl)) ?_
 simp only [Act.put,nAq,nBq,nCq]
 iterate 2
  refine plan_look rfl rfl (fun w0 hS => (by clear hS; go_simp; try rfl)) ?_
  simp only [Act.put,nAq,nBq,nCq]
 refine plan_load_part (cur:=X) (t:=47) (fr:=(0,0)) rfl rfl 31 (.tmp 86) rfl w.heap.size 1 32 rfl (fun w0 hS => hS.2) Tryz.underlying31 rfl sizeP (by rw [HX.out.1]; omega) K HX.out.2 ?_
 simp only [Act.put,nAq,nBq,nCq]
 refine plan_do rfl ?_
 go_wp2_with fail
 refine (HD2.out _ H2.out.2.2.1.drew y H2.out.2.2.2).mono ?_; rintro e w3 ⟨rfl,a3⟩
 have H3:=(hIq (a3.row (row_drew H2.out.1) id) (aIq (a3.row (row_drew H2.out.2.1) id) (H2.out.2.2.1.drew.trans a3 (fun _ => fEq))))
 clear a3
 dsimp only
 go_step
 refine wpList_nil ?_
 change _ ∧ _
 refine ⟨⟨⟨_,H3.out.1⟩,H3.out.2.1⟩,?_⟩
 iterate 5
  refine plan_look rfl rfl (fun w0 hS => (by clear hS; go_simp; try rfl)) ?_
  simp only [Act.put,nAq,nBq,nCq]
 refine plan_end ?_; simp only [List.drop_succ_cons,List.drop_zero]
 go_wp2
 refine NoPanic.normal ?_
 go_wp2
 go_ret
 exact ⟨rfl,_,_,_,_,HP.out.2.adds H3.out.2.2,HP.out.1.next⟩
theorem act10_ok (h:ScAt w0 w c s b σ σ root (firsts A) G) (P:Sce σ root L A n i) (hi:i ≤ 16) (x:Act9) (hx:x.Good w0) (hlen:x.val.length ≤ 2000) :
 Calls Tryz.prog 82 #[.pointer (some ⟨c,0,none⟩),.agg x.cells] w fun e w' => DoRet w0 w' c s b n i G e:=by
 by_cases h7:x.kind = 7
 · exact act10_drop h P hi x hx h7
 by_cases h9:x.kind = 9
 · exact act10_cost h P x hx h9
 unfold DoRet
 have q0:=Act9.at_kind (x:=x)
 have qs:=Act9.size hx.key
 have a0:Adds w (w.alloc (.cells x.cells 47)):=(Ch.refl (fun _ => False) w).alloc _
 have h1:=h.adds a0
 have hd:=Do_ok h1 P hi x hx hlen
 unfold DoRet at hd
 obtain ⟨X,hX⟩:∃ X,X = x.cells:=⟨_,rfl⟩
 obtain ⟨k,hk⟩:∃ k,k = x.kind:=⟨_,rfl⟩
 rw [← hX, ← hk] at q0
 rw [← hX] at qs hd h1
 rw [← hk] at h7 h9
 rw [← hX]
 obtain ⟨aa,ac,hr,_⟩:=h1.row
 have b7:(k == 7) = false:=by simpa using h7
 have b9:(k == 9) = false:=by simpa using h9
 have HD:=Lib.hid hd
 have HX:=Lib.hid qs
 have H0:=Lib.hid (heap_alloc_new w (.cells X 47))
 have ck:=row_cell (heap_alloc_new w (.cells X 47)) q0
 have cr:=row_cell hr (i:=2) (v:=.int .i64 root) rfl
 clear h h1 P q0 qs hX hk hx a0 hd hr hi hlen h7 h9
 go_enter Tryz.func82,Tryz.ntmps82
 go_wp2_with (first
  | fail
  | ((with_reducible show zOq (.load 47 _)); refine wpList_load_part rfl 47 _ rfl w.heap.size 0 rfl H0.out Tryz.underlying47 rfl sizeAct9 (by rw [HX.out]; omega) X (by simp [← HX.out]) ?_))
 refine HD.out.mono ?_; rintro e w2 ⟨rfl,σ',root',L',A',S',P'⟩
 have H2:=(hIq S' P')
 clear S' P'
 go_wp2
 go_ret
 exact ⟨rfl,_,_,_,_,H2.out.1,H2.out.2⟩
end
def Small (W:World) (ao:Option Addr) (len:Nat):Prop := ∀ i,i < len → ∃ (g off:Nat) (x:Act9),ao = some ⟨g,off,none⟩ ∧ x.Good W ∧ PartAt W g (off + i * 35) x.cells ∧ x.val.length ≤ 2000
section
variable {w0 w w' : World} {c s b n i : Nat} {σ : SlabSt Nd} {root : Int} {L : Ents} {A : List (Int × Ents)} {G : Nat → Prop}
def LargeRet (w w':World) (room:Int) (ao:Option Addr) (len:Nat) (e:Ending):Prop := ∃ B,e = .returned (.bool B) ∧ w = w' ∧ (B = false → 1 ≤ room ∧ room ≤ 5000 ∧ len ≤ 16 ∧ Small w ao len)
theorem Large_ok (room:Int) {ao:Option Addr} {len:Nat} (cap:Nat) (ha:ActsAt w ao len) :
 Calls Tryz.prog 19 #[.int .i64 room,.slice ao len cap] w fun e w' => LargeRet w w' room ao len e:=by
 by_cases h1:room < 1
 · clear ha
   have b1:decide (room < 1) = true:=decide_eq_true h1
   go_enter Tryz.func19,Tryz.ntmps19
   go_wp2
   go_ret
   exact ⟨true,rfl,rfl,fun h => (by cases h)⟩
 have b1:decide (room < 1) = false:=decide_eq_false h1
 by_cases h2:5000 < room
 · clear ha
   have b2:decide (5000 < room) = true:=decide_eq_true h2
   go_enter Tryz.func19,Tryz.ntmps19
   go_wp2
   go_ret
   exact ⟨true,rfl,rfl,fun h => (by cases h)⟩
 have b2:decide (5000 < room) = false:=decide_eq_false h2
 by_cases h3:(16:Int) < (len:Int)
 · clear ha
   have b3:decide ((16:Int) < (len:Int)) = true:=decide_eq_true h3
   go_enter Tryz.func19,Tryz.ntmps19
   go_wp2
   go_ret
   exact ⟨true,rfl,rfl,fun h => (by cases h)⟩
 have b3:decide ((16:Int) < (len:Int)) = false:=decide_eq_false h3
 have HA:=(hIq ha (show 1 ≤ room ∧ room ≤ 5000 ∧ len ≤ 16 by omega))
 have hl16:len ≤ 16:=by omega
 clear ha
 go_enter Tryz.func19,Tryz.ntmps19
 go_wp2
 go_loopg [5] len (fun g s5 wr => ∃ k:Nat,k ≤ len ∧ g = len - k ∧ s5 = .int .i64 k ∧ wr = w ∧ Small w ao k)
 case atStart => exact ⟨0,Nat.zero_le _,rfl,rfl,rfl,fun i hi => absurd hi (Nat.not_lt_zero i)⟩
 obtain ⟨k,hk,rfl,rfl,rfl,hsm⟩:=hrel
 have HSM:=Lib.hid hsm
 clear hsm
 by_cases hkl:k < len
 · obtain ⟨g,off,x,rfl,hx,hp⟩:=HA.out.1 k hkl
   have cv:=Law9.PartAt.cellAt hp (Act9.at_val hx.key)
   have HX:=(hIq hx hp)
   obtain ⟨vo,vc,hvv,_⟩:=hx.val.form
   rw [hvv] at cv
   obtain ⟨vl,hvl⟩:∃ vl,vl = x.val.length:=⟨_,rfl⟩
   rw [← hvl] at cv
   have HVL:=Lib.hid hvl
   have hki:(k:Int) < (len:Int):=by omega
   clear hx hp hvv hvl
   by_cases hb:2000 < vl
   · have hbi:(2000:Int) < (vl:Int):=by omega
     go_wp2
     go_ret
     exact ⟨true,rfl,rfl,fun h => (by cases h)⟩
   have hbi:¬ (2000:Int) < (vl:Int):=by omega
   go_wp2
   go_roundg (len - (k + 1))
   case measure => omega
   refine ⟨k + 1,by omega,rfl,by go_num,rfl,fun i hi => ?_⟩
   by_cases e:i = k
   · subst e
     exact ⟨g,off,x,rfl,HX.out.1,HX.out.2,by rw [← HVL.out]; omega⟩
   exact HSM.out i (by omega)
 obtain rfl:k = len:=by omega
 have hki:¬ (k:Int) < (k:Int):=by omega
 go_wp2
 go_ret
 exact ⟨false,rfl,rfl,fun _ => ⟨HA.out.2.1,HA.out.2.2.1,HA.out.2.2.2,HSM.out⟩⟩
def PlayRet (w w':World) (n len:Nat) (e:Ending):Prop := ∃ (c s b:Nat) (σ:SlabSt Nd) (root:Int) (L:Ents) (A:List (Int × Ents)),
 e = .returned (.tuple #[.pointer (some ⟨c,0,none⟩),.bool true]) ∧ ScAt w w' c s b σ σ root (firsts A) (fun k => k < w.heap.size) ∧ Sce σ root L A n len
end
end Go.Proofs.YtmeglndnkdgkoaaGreat.Store
namespace Go.Proofs.YtmeglndnkdgkoaaGreat.Path
open Go Go.RowKit Go.Proofs.YtmeglndnkdgkoaaGreat Go.Proofs.YtmeglndnkdgkoaaGreat.Store
def clr (x:UInt8) (j:Nat):UInt8:=UInt8.ofNat (x.toNat - bbit x j * 2 ^ (7 - j))
theorem clr_bits:∀ (x:Fin 256) (j i:Fin 8),(x.val - x.val / 2 ^ (7 - j.val) % 2 * 2 ^ (7 - j.val)) / 2 ^ (7 - i.val) % 2 = if i.val = j.val then 0 else x.val / 2 ^ (7 - i.val) % 2:=by decide +kernel
theorem clr_nat (x:UInt8) (j:Nat):(clr x j).toNat = x.toNat - bbit x j * 2 ^ (7 - j):=by
 unfold clr
 rw [UInt8.toNat_ofNat']
 exact Nat.mod_eq_of_lt (Nat.lt_of_le_of_lt (Nat.sub_le _ _) x.toNat_lt)
theorem clr_bit (x:UInt8) {i j:Nat} (hi:i < 8) (hj:j < 8):bbit (clr x j) i = if i = j then 0 else bbit x i:=by
 have:=clr_bits ⟨x.toNat,x.toNat_lt⟩ ⟨j,hj⟩ ⟨i,hi⟩
 simp only at this
 unfold bbit
 rw [clr_nat]
 exact this
def setz (k:List UInt8) (d:Nat):List UInt8:=k.set (d / 8) (clr (k.getD (d / 8) 0) (d % 8))
theorem setz_length (k:List UInt8) (d:Nat):(setz k d).length = k.length:=List.length_set
theorem setz_bit {k:List UInt8} (hk:k.length = 32) {d j:Nat} (hd:d < 256) (hj:j < 256):kbit (setz k d) j = if j = d then 0 else kbit k j:=by
 unfold setz kbit
 have e8:d % 8 < 8:=Nat.mod_lt _ (by decide)
 have e9:j % 8 < 8:=Nat.mod_lt _ (by decide)
 by_cases h:j / 8 = d / 8
 · rw [h]
   have hg:(k.set (d / 8) (clr (k.getD (d / 8) 0) (d % 8))).getD (d / 8) 0 = clr (k.getD (d / 8) 0) (d % 8):=by
    rw [List.getD_eq_getElem?_getD,List.getElem?_set_self (by omega)]; rfl
   rw [hg,clr_bit _ e9 e8]
   by_cases e:j = d
   · subst e; simp
   rw [if_neg e,if_neg (by omega)]
 have hg:(k.set (d / 8) (clr (k.getD (d / 8) 0) (d % 8))).getD (j / 8) 0 = k.getD (j / 8) 0:=by
  rw [List.getD_eq_getElem?_getD,List.getElem?_set_ne (Ne.symm h), ← List.getD_eq_getElem?_getD]
 rw [hg,if_neg (fun e => h (by rw [e]))]
theorem kept_more:∀ (x:Fin 256) (k i:Fin 8),0 < k.val → k.val ≤ i.val → x.val / 2 ^ (8 - k.val) * 2 ^ (8 - k.val) / 2 ^ (7 - i.val) % 2 = 0:=by decide +kernel
theorem first_zero {k:List UInt8} (hk:k.length = 32) {d j:Nat} (hj:j < 256) (h:d ≤ j):kbit (Path.first k d) j = 0:=by
 unfold kbit
 obtain ⟨x,hx⟩:∃ x,k[j / 8]? = some x:=⟨_,List.getElem?_eq_getElem (by omega)⟩
 have h1:=firstFrom_get (d:Int) 0 k (j / 8) x hx
 have h2:(Path.first k (d:Int))[j / 8]? = some (kept x ((d:Int) - 8 * (0 + (j / 8:Nat)))):=h1
 simp only [List.getD_eq_getElem?_getD,h2,Option.getD_some]
 have e9:j % 8 < 8:=Nat.mod_lt _ (by decide)
 unfold kept
 by_cases c0:(d:Int) - 8 * (0 + (j / 8:Nat)) ≤ 0
 · rw [if_pos c0]; unfold bbit; simp
 rw [if_neg c0,if_pos (by omega)]
 obtain ⟨m,hm⟩:∃ m:Nat,(d:Int) - 8 * (0 + (j / 8:Nat)) = (m:Int):=⟨((d:Int) - 8 * (0 + (j / 8:Nat))).toNat,by omega⟩
 rw [hm,Int.toNat_natCast]
 have:=kept_more ⟨x.toNat,x.toNat_lt⟩ ⟨m,by omega⟩ ⟨j % 8,e9⟩ (by simp only; omega) (by simp only; omega)
 simp only at this
 unfold bbit
 rw [UInt8.toNat_ofNat',Nat.mod_eq_of_lt (Nat.lt_of_le_of_lt (Nat.div_mul_le_self _ _) x.toNat_lt)]
 exact this
def fillz (k:List UInt8) (d:Nat):Nat → List UInt8
 | 0 => k
 | n + 1 => setz (fillz k d n) (d + n)
theorem fillz_length (k:List UInt8) (d:Nat):∀ n,(fillz k d n).length = k.length
 | 0 => rfl
 | n + 1 => by rw [fillz,setz_length,fillz_length k d n]
theorem fillz_bit {k:List UInt8} (hk:k.length = 32) {d j:Nat} (hj:j < 256):∀ n,d + n ≤ 256 → kbit (fillz k d n) j = if d ≤ j ∧ j < d + n then 0 else kbit k j
 | 0,_ => by rw [fillz,if_neg (by omega)]
 | n + 1,h => by
  rw [fillz,setz_bit (by rw [fillz_length]; exact hk) (by omega) hj,fillz_bit hk hj n (by omega)]
  by_cases e:j = d + n
  · rw [if_pos e,if_pos (by omega)]
  rw [if_neg e]
  by_cases c:d ≤ j ∧ j < d + n
  · rw [if_pos c,if_pos (by omega)]
  rw [if_neg c,if_neg (by omega)]
theorem fillz_first {k:List UInt8} (hk:k.length = 32) {d:Nat} (hd:d ≤ 256):fillz k d (256 - d) = Path.first k d:=by
 refine pre_all (by rw [fillz_length]; exact hk) (by rw [first_length]; exact hk) (fun j hj => ?_)
 rw [fillz_bit hk hj _ (by omega)]
 by_cases c:d ≤ j
 · rw [if_pos ⟨c,by omega⟩,first_zero hk hj c]
 rw [if_neg (fun h => c h.1),first_bit k d j (by omega)]
theorem zeroB32:(Tryz.prog.info? 30).bind (·.zero) = some (.agg (brow (List.replicate 32 0))):=by kernel_rfl
theorem Set_ok (k:List UInt8) (hk:k.length = 32) (d:Nat) (hd:d < 256) (w:World):Calls Tryz.prog 210 #[.agg (brow k),.int .i64 (d:Int),.int .i64 0] w fun e w' => e = .returned (.agg (brow (setz k d))) ∧ Ch (fun _ => False) w w':=by
 have hx:=brow_get (l:=k) (i:=d / 8) (by omega)
 have hkb:kbit k d = bbit (k.getD (d / 8) 0) (d % 8):=rfl
 have hbit:=fun w1 => RBit_in k hk d hd w1
 have hset:(brow k).setIfInBounds (d / 8) (bv (clr (k.getD (d / 8) 0) (d % 8))) = brow (setz k d):=by
  apply Array.ext'
  simp [brow,setz,List.map_set]
 have hcn:=clr_nat (k.getD (d / 8) 0) (d % 8)
 have hcl:=(clr (k.getD (d / 8) 0) (d % 8)).toNat_lt
 have hcx:=(k.getD (d / 8) 0).toNat_lt
 have hk2:=kbit_cases k d
 rw [← hkb] at hcn
 have hle:kbit k d * 2 ^ (7 - d % 8) ≤ (k.getD (d / 8) 0).toNat:=by
  rw [hkb]
  unfold bbit
  have h1:=Nat.div_add_mod ((k.getD (d / 8) 0).toNat / 2 ^ (7 - d % 8)) 2
  have h2:(k.getD (d / 8) 0).toNat / 2 ^ (7 - d % 8) % 2 ≤ (k.getD (d / 8) 0).toNat / 2 ^ (7 - d % 8):=Nat.mod_le _ _
  exact Nat.le_trans (Nat.mul_le_mul_right _ h2) (Nat.div_mul_le_self _ _)
 have hbv:bv (clr (k.getD (d / 8) 0) (d % 8)) = .int .u8 ((clr (k.getD (d / 8) 0) (d % 8)).toNat:Int):=rfl
 generalize k.getD (d / 8) 0 = x at *
 obtain ⟨y,hy⟩:∃ y,y = clr x (d % 8):=⟨_,rfl⟩
 rw [← hy] at hset hcn hcl hbv
 obtain ⟨kb,hkk⟩:∃ kb,kb = kbit k d:=⟨_,rfl⟩
 rw [← hkk] at hcn hk2 hle hbit
 obtain ⟨W,hW⟩:∃ W,W = 2 ^ (7 - d % 8):=⟨_,rfl⟩
 rw [← hW] at hcn hle
 have hW128:W ≤ 128:=by
  rw [hW]
  exact Nat.pow_le_pow_right (by decide) (show 7 - d % 8 ≤ 7 by omega)
 obtain ⟨K,hK⟩:∃ K,K = brow k:=⟨_,rfl⟩
 obtain ⟨K2,hK2⟩:∃ K2,K2 = brow (setz k d):=⟨_,rfl⟩
 have hKs:K.size = 32:=by rw [hK,brow_size,hk]
 have hK2s:K2.size = 32 ∧ ∀ v ∈ K2.toList,v.oneCell' = true:=by rw [hK2]; exact ⟨by rw [brow_size,setz_length,hk],fun v hv => by simp [brow] at hv; obtain ⟨_,_,rfl⟩:=hv; rfl⟩
 rw [← hK, ← hK2] at hset
 rw [← hK] at hx hbit ⊢
 rw [← hK2]
 obtain ⟨Z,hZ⟩:∃ Z,Z = brow (List.replicate 32 0):=⟨_,rfl⟩
 have hz:=zeroB32
 rw [← hZ] at hz
 have hZs:Z.size = 32:=by rw [hZ]; rfl
 obtain ⟨s1,hs1⟩:∃ s1:Int,s1 = 0 - (kb:Int):=⟨_,rfl⟩
 obtain ⟨s2,hs2⟩:∃ s2:Int,s2 = s1 * (W:Int):=⟨_,rfl⟩
 have hs2v:s2 = - ((kb * W:Nat):Int):=by rw [hs2,hs1]; push_cast; rw [Int.zero_sub,Int.neg_mul]
 obtain ⟨xn,hxn⟩:∃ xn,xn = x.toNat:=⟨_,rfl⟩
 obtain ⟨yn,hyn⟩:∃ yn,yn = y.toNat:=⟨_,rfl⟩
 rw [← hyn] at hcn hcl hbv
 rw [← hxn] at hcn hle hcx
 have hs3:(xn:Int) + s2 = (yn:Int):=by rw [hs2v]; omega
 have hw1:IntKind.i64.wrap (0 - (kb:Int)) = s1:=by rw [← hs1]; exact IntWalk.i64_in _ (by omega)
 have hkW:kb * W ≤ 255:=by omega
 have hw2:IntKind.i64.wrap (s1 * (W:Int)) = s2:=by rw [← hs2]; exact IntWalk.i64_in _ (by omega)
 have hw3:IntKind.i64.wrap ((xn:Int) + s2) = (yn:Int):=by rw [hs3]; exact IntWalk.i64_in _ (by omega)
 have hxb:bv x = .int .u8 (xn:Int):=by rw [hxn]
 rw [hxb] at hx
 rw [hbv] at hset
 have hyi:(yn:Int) < 256:=by omega
 have hxi:(xn:Int) < 256:=by omega
 have hw1':IntKind.i64.wrap (-(kb:Int)) = s1:=by rw [← hw1,Int.zero_sub]
 have hwd:IntKind.i64.wrap ((d:Int) / 8) = (d:Int) / 8:=IntWalk.i64_in _ (by omega)
 have n1:(0:Int) ≤ (d:Int) / 8:=by omega
 have n2:(d:Int) / 8 < 32:=by omega
 have n3:((d:Int) / 8).toNat = d / 8:=by omega
 have n4:d / 8 < 32:=by omega
 have HZ:=(hIq hz hZs)
 have HK:=(hIq hKs (aIq hK2s (aIq hset hx)))
 have HB:=Lib.hid hbit
 have HP:=Lib.hid hW
 clear hkb hset hcn hcl hcx hk2 hle hbv hkk hK hK2 hKs hK2s hx hbit hz hZs hZ hs1 hs2 hs2v hxn hyn hs3 hy hxb hW
 go_enter Tryz.func210,Tryz.ntmps210
 go_wp2_with (first
  | fail
  | ((with_reducible show zOq (.alloc 30)); refine wpList_alloc_is rfl 30 rfl (.agg Z) HZ.out.1 ?_; dsimp only [Value.cells]; try simp only [World.size_alloc]))
 go_loopg [7,8] (7 - d % 8) (fun g s7 s8 wr => ∃ i y:Nat,i ≤ 7 - d % 8 ∧ g = 7 - d % 8 - i ∧ s7 = .int .i64 (y:Int) ∧ s8 = .int .i64 (i:Int) ∧ y = 2 ^ i ∧ y ≤ 128 ∧ wr.heap[w.heap.size]? = some (.cells K 30 (0,0)) ∧ wr.heap[w.heap.size + 1]? = some (.cells Z 30 (0,0)) ∧ Ch (fun _ => False) w wr)
 case atStart =>
  refine ⟨0,1,Nat.zero_le _,rfl,rfl,rfl,rfl,by omega,row_alloc (heap_alloc_new _ _) _,?_,((Ch.refl _ _).alloc _).alloc _⟩
  have:=heap_alloc_new (w.alloc (.cells K 30)) (.cells Z 30)
  simpa using this
 obtain ⟨i,y,hi,rfl,rfl,rfl,hy,hy2,hr0,hr1,hch⟩:=hrel
 have HY:=(hIq hy (aIq hr0 (aIq hr1 hch)))
 clear hy hr0 hr1 hch
 have e8:d % 8 < 8:=Nat.mod_lt _ (by decide)
 by_cases hlt:i < 7 - d % 8
 · have p1:decide ((i:Int) < 7 - (d:Int) % 8) = true:=decide_eq_true (by omega)
   have p2:(i:Int) < 7 - (d:Int) % 8:=by omega
   have hy64:y ≤ 64:=by
    rw [HY.out.1]
    exact Nat.pow_le_pow_right (show 0 < 2 by decide) (show i ≤ 6 by omega)
   have hwy:IntKind.i64.wrap (2 * (y:Int)) = 2 * (y:Int):=IntWalk.i64_in _ (by omega)
   go_wp2
   go_roundg (7 - d % 8 - (i + 1))
   case measure => omega
   exact ⟨i + 1,2 * y,by omega,rfl,by push_cast; rfl,by go_num,by rw [HY.out.1,Nat.pow_succ,Nat.mul_comm],by omega,HY.out.2.1,HY.out.2.2.1,HY.out.2.2.2⟩
 have p1:decide ((i:Int) < 7 - (d:Int) % 8) = false:=decide_eq_false (by omega)
 have p2:¬ (i:Int) < 7 - (d:Int) % 8:=by omega
 have hie:i = 7 - d % 8:=by omega
 have hyW:y = W:=by rw [HY.out.1,HP.out,hie]
 subst hyW
 clear hy2 hi hlt hie
 have hwx:IntKind.i64.wrap (xn:Int) = (xn:Int):=IntWalk.i64_in _ (by omega)
 go_upto_region 6 with fail
 refine wp_region_plan (fun wz => wz.heap[w.heap.size]? = some (.cells K 30 (0,0))) 13 [(0,false),(1,false),(2,false),(3,false),(4,false),(5,false),(6,false),(7,false),(10,false),(8,true),(9,false),(11,false),(12,false)] (by kernel_rfl) (by kernel_rfl) ?_ ?_
 · exact row_drew HY.out.2.1
 iterate 2
  refine plan_look rfl rfl (fun w0 hS => (by clear hS; go_simp; try rfl)) ?_
  simp only [Act.put,nAq,nBq,nCq]
 refine plan_look (v:=.pointer (some ⟨w.heap.size,d / 8,none⟩)) rfl rfl (fun w0 hS => (by clear hS; go_simp; try rfl)) ?_
 simp only [Act.put,nAq,nBq,nCq]
 refine plan_look (v:=.int .u8 (xn:Int)) rfl rfl (fun w0 hS => (by have c1:=row_cell hS HK.out.2.2.2; clear hS; go_simp; try rfl)) ?_
 simp only [Act.put,nAq,nBq,nCq]
 refine plan_look (v:=.int .i64 (xn:Int)) rfl rfl (fun w0 hS => (by clear hS; go_simp; try simp [hwx])) ?_
 simp only [Act.put,nAq,nBq,nCq]
 refine plan_look rfl rfl (fun w0 hS => (by clear hS; go_simp; try rfl)) ?_
 simp only [Act.put,nAq,nBq,nCq]
 refine plan_load_part (cur:=K) (t:=30) (fr:=(0,0)) rfl rfl 30 (.tmp 3) rfl w.heap.size 0 32 rfl (fun w0 hS => hS) Tryz.underlying30 rfl sizeB32 (by rw [HK.out.1]; omega) K (by simp [← HK.out.1]) ?_
 simp only [Act.put,nAq,nBq,nCq]
 iterate 2
  refine plan_look rfl rfl (fun w0 hS => (by clear hS; go_simp; try rfl)) ?_
  simp only [Act.put,nAq,nBq,nCq]
 refine plan_do rfl ?_
 go_wp2_with fail
 refine (HB.out _).mono ?_; rintro e w3 ⟨rfl,a3⟩
 have H3:=(hIq (a3.row (row_drew HY.out.2.1) id) (aIq (a3.row (row_drew HY.out.2.2.1) id) (HY.out.2.2.2.drew.trans a3 (fun _ => fEq))))
 clear a3
 dsimp only
 go_step
 refine wpList_nil ?_
 change _ ∧ _
 refine ⟨H3.out.1,?_⟩
 refine plan_look (v:=.int .i64 s1) rfl rfl (fun w0 hS => (by clear hS; go_simp; try simp [hw1,hw1'])) ?_
 simp only [Act.put,nAq,nBq,nCq]
 refine plan_look (v:=.int .i64 s2) rfl rfl (fun w0 hS => (by clear hS; go_simp; try simp [hw2])) ?_
 simp only [Act.put,nAq,nBq,nCq]
 refine plan_look (v:=.int .i64 (yn:Int)) rfl rfl (fun w0 hS => (by clear hS; go_simp; try simp [hw3])) ?_
 simp only [Act.put,nAq,nBq,nCq]
 refine plan_end ?_; simp only [List.drop_succ_cons,List.drop_zero]
 go_wp2
 refine NoPanic.normal ?_
 have c1:=row_cell H3.out.1 HK.out.2.2.2
 have f1:=row_free H3.out.1 (d / 8)
 have l1:=row_lt H3.out.1
 have hset:=row_set_same H3.out.1 (d / 8) (.int .u8 (yn:Int))
 rw [HK.out.2.2.1] at hset
 have hz2:=row_set (p:=⟨w.heap.size,d / 8,none⟩) H3.out.2.1 (by show w.heap.size + 1 ≠ w.heap.size; omega) (.int .u8 (yn:Int))
 have H4:=(hIq hset (aIq hz2 (H3.out.2.2.setCell (p:=⟨w.heap.size,d / 8,none⟩) (.inr (Nat.le_refl _)) (.int .u8 (yn:Int)))))
 clear hset hz2
 go_wp2_with (first
  | fail
  | ((with_reducible show zOq (.load 30 _)); refine wpList_load_part rfl 30 _ rfl w.heap.size 0 rfl H4.out.1 Tryz.underlying30 rfl sizeB32 (by rw [HK.out.2.1.1]; omega) K2 (by simp [← HK.out.2.1.1]) ?_)
  | ((with_reducible show zOq (.store 30 _ _)); refine wpList_store_part rfl 30 _ _ rfl (w.heap.size + 1) 0 K2 rfl rfl H4.out.2.1 (by rw [sizeB32,HK.out.2.1.1]) (by rw [HK.out.2.1.1,HZ.out.2]; omega) HK.out.2.1.2 K2 (by rw [splice_all _ _ (by rw [Array.length_toList,Array.length_toList,HK.out.2.1.1,HZ.out.2])]) ?_))
 exact bodyPost_ret_cell1 (p:=6) rfl rfl (row_setRow_same H4.out.2.1 _) Tryz.underlying30 rfl (by rw [sizeB32,HK.out.2.1.1]) rfl ⟨rfl,H4.out.2.2.setRow (.inr (Nat.le_succ _)) _⟩
theorem brow_ones (k:List UInt8):∀ v ∈ (brow k).toList,v.oneCell' = true:=fun v hv => by simp [brow] at hv; obtain ⟨_,_,rfl⟩:=hv; rfl
theorem Filled_ok (k:List UInt8) (hk:k.length = 32) (d:Nat) (hd:d ≤ 256) (w:World):Calls Tryz.prog 192 #[.agg (brow k),.int .i64 (d:Int),.int .i64 0] w fun e w' => e = .returned (.tuple #[.agg (brow (Path.first k d)),.int .i64 0]) ∧ Ch (fun _ => False) w w':=by
 have hff:=fillz_first hk hd
 obtain ⟨K,hK⟩:∃ K,K = brow k:=⟨_,rfl⟩
 rw [← hff, ← hK]
 obtain ⟨Z,hZ⟩:∃ Z,Z = brow (List.replicate 32 0):=⟨_,rfl⟩
 have hz:=zeroB32
 rw [← hZ] at hz
 have hZs:Z.size = 32:=by rw [hZ]; rfl
 have HZ:=(hIq hz hZs)
 have HK:=Lib.hid hK
 have h0:decide ((d:Int) < 0) = false:=decide_eq_false (by omega)
 have h1:decide (256 < (d:Int)) = false:=decide_eq_false (by omega)
 clear hff hK hz hZs hZ
 go_enter Tryz.func192,Tryz.ntmps192
 go_wp2_with (first
  | fail
  | ((with_reducible show zOq (.alloc 30)); refine wpList_alloc_is rfl 30 rfl (.agg Z) HZ.out.1 ?_; dsimp only [Value.cells]; try simp only [World.size_alloc]))
 go_loopg [8] (256 - d) (fun g s8 wr => ∃ n:Nat,n ≤ 256 - d ∧ g = 256 - d - n ∧ s8 = .int .i64 ((d:Int) + n) ∧ wr.heap[w.heap.size]? = some (.cells (brow (fillz k d n)) 30 (0,0)) ∧ wr.heap[w.heap.size + 1]? = some (.cells Z 30 (0,0)) ∧ Ch (fun _ => False) w wr)
 case atStart =>
  refine ⟨0,Nat.zero_le _,rfl,by simp,?_,?_,((Ch.refl _ _).alloc _).alloc _⟩
  · show _ = some (Obj.cells (brow k) _ _)
    rw [← HK.out]
    exact row_alloc (heap_alloc_new _ _) _
  have:=heap_alloc_new (w.alloc (.cells K 30)) (.cells Z 30)
  simpa using this
 obtain ⟨n,hn,rfl,rfl,hr0,hr1,hch⟩:=hrel
 obtain ⟨C,hC⟩:∃ C,C = brow (fillz k d n):=⟨_,rfl⟩
 have hfl:(fillz k d n).length = 32:=by rw [fillz_length]; exact hk
 have hCs:C.size = 32:=by rw [hC,brow_size,hfl]
 by_cases hlt:n < 256 - d
 · have hs:=fun w1 => Set_ok (fillz k d n) hfl (d + n) (by omega) w1
   obtain ⟨D,hD⟩:∃ D,D = brow (fillz k d (n + 1)):=⟨_,rfl⟩
   have hDs:D.size = 32 ∧ ∀ v ∈ D.toList,v.oneCell' = true:=by rw [hD]; exact ⟨by rw [brow_size,fillz_length,hk],brow_ones _⟩
   rw [show brow (setz (fillz k d n) (d + n)) = D by rw [hD]; rfl, ← hC] at hs
   rw [← hC] at hr0
   obtain ⟨i,hi⟩:∃ i,i = d + n:=⟨_,rfl⟩
   have hii:(d:Int) + (n:Int) = (i:Int):=by omega
   rw [← hi] at hs
   rw [hii]
   have p1:(i:Int) < 256:=by omega
   have HS:=Lib.hid hs
   have HC:=(hIq hCs (aIq hDs (aIq hD hii)))
   have HR:=(hIq hr0 (aIq hr1 hch))
   clear hs hC hD hDs hCs hr0 hr1 hch hi hii hfl
   go_wp2_with (first
    | fail
    | ((with_reducible show zOq (.load 30 _)); refine wpList_load_part rfl 30 _ rfl w.heap.size 0 rfl HR.out.1 Tryz.underlying30 rfl sizeB32 (by rw [HC.out.1]; omega) C (by simp [← HC.out.1]) ?_))
   refine (HS.out _).mono ?_; rintro e w3 ⟨rfl,a3⟩
   have H3:=(hIq (a3.row HR.out.1 id) (aIq (a3.row HR.out.2.1 id) (HR.out.2.2.trans a3 (fun _ => fEq))))
   clear a3
   go_wp2_with (first
    | fail
    | ((with_reducible show zOq (.store 30 _ _)); refine wpList_store_part rfl 30 _ _ rfl w.heap.size 0 D rfl rfl H3.out.1 (by rw [sizeB32,HC.out.2.1.1]) (by rw [HC.out.2.1.1,HC.out.1]; omega) HC.out.2.1.2 D (by rw [splice_all _ _ (by rw [Array.length_toList,Array.length_toList,HC.out.2.1.1,HC.out.1])]) ?_))
   go_roundg (256 - d - (n + 1))
   case measure => omega
   refine ⟨n + 1,by omega,rfl,by have:=HC.out.2.2.2; push_cast; first | (congr 1; omega) | omega,?_,row_setRow H3.out.2.1 (by omega) _,H3.out.2.2.setRow (.inr (Nat.le_refl _)) _⟩
   rw [← HC.out.2.2.1]
   exact row_setRow_same H3.out.1 _
 obtain rfl:n = 256 - d:=by omega
 have hii:(d:Int) + ((256 - d:Nat):Int) = 256:=by omega
 rw [hii]
 rw [← hC] at hr0
 have hone:∀ v ∈ C.toList,v.oneCell' = true:=by rw [hC]; exact brow_ones _
 have HCE:=Lib.hid hC
 have HC:=(hIq hCs hone)
 have HR:=(hIq hr0 (aIq hr1 hch))
 clear hC hCs hone hr0 hr1 hch hii hfl hlt hn
 go_wp2_with (first
  | fail
  | ((with_reducible show zOq (.load 30 _)); refine wpList_load_part rfl 30 _ rfl w.heap.size 0 rfl HR.out.1 Tryz.underlying30 rfl sizeB32 (by rw [HC.out.1]; omega) C (by simp [← HC.out.1]) ?_)
  | ((with_reducible show zOq (.store 30 _ _)); refine wpList_store_part rfl 30 _ _ rfl (w.heap.size + 1) 0 C rfl rfl HR.out.2.1 (by rw [sizeB32,HC.out.1]) (by rw [HC.out.1,HZ.out.2]; omega) HC.out.2 C (by rw [splice_all _ _ (by rw [Array.length_toList,Array.length_toList,HC.out.1,HZ.out.2])]) ?_))
 exact bodyPost_ret_cell (p:=6) (u:=7) rfl rfl (row_setRow_same HR.out.2.1 _) Tryz.underlying30 rfl (by rw [sizeB32,HC.out.1]) rfl ⟨by rw [HCE.out]; rfl,HR.out.2.2.setRow (.inr (Nat.le_succ _)) _⟩
end Go.Proofs.YtmeglndnkdgkoaaGreat.Path
